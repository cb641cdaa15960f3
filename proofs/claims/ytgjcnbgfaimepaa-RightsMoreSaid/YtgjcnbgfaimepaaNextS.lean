/- Ascending lists, each number once. -/
import Derived.Test.YtgjcnbgfaimepaaNextD
import Derived.Lib.SlicesCompact
set_option linter.unusedVariables false
set_option linter.unusedSimpArgs false
namespace Go.Proofs.Ytgjcnbgfaimepaa
namespace Vm
open Go.RowKit
def Asc (l:List Int):Prop:=l.Pairwise (· < ·)
theorem VO {l:List Int} {y:Int}:y ∈ Lib.compact l ↔ y ∈ l:=by
 unfold Lib.compact Lib.compactUpTo
 rw [List.mem_map]
 constructor
 ·rintro ⟨j,hj,rfl⟩
  have:=List.mem_range.1 (List.mem_filter.1 hj).1
  simp [getElem!_pos,this]
 ·intro hy
  obtain ⟨j,hj,e⟩:=List.mem_iff_getElem.1 hy
  -- the first place that holds it
  have key:∀ n j,j <= n->(hj:j < l.length)->l[j] = y->∃ k,k ∈ (List.range l.length).filter (Lib.keeps l.toArray) ∧ l.toArray[k]! = y:=by
   intro n
   induction n with
   | zero =>
    intro j hj0 hj e
    refine ⟨j,List.mem_filter.2 ⟨List.mem_range.2 hj,?_⟩,by simp [getElem!_pos,hj,e]⟩
    simp [Lib.keeps]; omega
   | succ n ih =>
    intro j hjn hj e
    by_cases c:Lib.keeps l.toArray j = true
    ·exact ⟨j,List.mem_filter.2 ⟨List.mem_range.2 hj,c⟩,by simp [getElem!_pos,hj,e]⟩
    ·have c' : ¬ (j = 0 ∨ l.toArray[j]! ≠ l.toArray[j - 1]!):=fun q=>c (by simp only [Lib.keeps]; exact decide_eq_true q)
     have hj0:j ≠ 0:=fun q=>c' (.inl q)
     have heq:l.toArray[j]! = l.toArray[j - 1]!:=Classical.byContradiction fun q=>c' (.inr q)
     have hj1:j - 1 < l.length:=by omega
     refine ih (j - 1) (by omega) hj1 ?_
     have a1:l.toArray[j]! = l[j]:=by simp [getElem!_pos,hj]
     have a2:l.toArray[j - 1]! = l[j - 1]:=by simp [getElem!_pos,hj1]
     rw [← a2,← heq,a1,e]
  exact key j j (Nat.le_refl _) hj e
theorem XJ {l:List Int} (h:l.Pairwise (· <= ·)):Asc (Lib.compact l):=by
 unfold Lib.compact Lib.compactUpTo Asc
 rw [List.pairwise_map]
 have hr:((List.range l.length).filter (Lib.keeps l.toArray)).Pairwise (· < ·):=List.Pairwise.filter _ List.pairwise_lt_range
 refine hr.imp_of_mem ?_
 intro i j hi hj hij
 have hi':=List.mem_range.1 (List.mem_filter.1 hi).1
 have hj':=List.mem_range.1 (List.mem_filter.1 hj).1
 have hk:=(List.mem_filter.1 hj).2
 simp only [Lib.keeps,decide_eq_true_eq] at hk
 have hj1:j - 1 < l.length:=by omega
 have a0:l.toArray[i]! = l[i]:=by simp [getElem!_pos,hi']
 have a1:l.toArray[j]! = l[j]:=by simp [getElem!_pos,hj']
 have a2:l.toArray[j - 1]! = l[j - 1]:=by simp [getElem!_pos,hj1]
 rw [a0,a1]
 rw [a1,a2] at hk
 have p1:l[j - 1] <= l[j]:=List.pairwise_iff_getElem.1 h (j - 1) j hj1 hj' (by omega)
 have p2:l[i] <= l[j - 1]:=by
  by_cases e:i = j - 1
  ·subst e; exact Int.le_refl _
  ·exact List.pairwise_iff_getElem.1 h i (j - 1) hi' hj1 (by omega)
 rcases hk with e | e
 ·omega
 ·omega
end Vm
end Go.Proofs.Ytgjcnbgfaimepaa
