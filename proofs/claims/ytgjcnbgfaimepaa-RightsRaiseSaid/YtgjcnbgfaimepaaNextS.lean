/- Ascending lists, each number once. -/
import Derived.Test.YtgjcnbgfaimepaaNextD
import Derived.Lib.SlicesCompact
set_option linter.unusedVariables false
set_option linter.unusedSimpArgs false
namespace Go.Proofs.Ytgjcnbgfaimepaa
namespace Vm
open Go.RowKit
def G3 (l:List Int):Prop:=l.Pairwise (· < ·)
theorem aEm:∀ {l m:List Int},G3 l->G3 m->(∀ x,x ∈ l ↔ x ∈ m)->l = m
 | [],[],_,_,_=>rfl
 | [],b :: m,_,_,h=>by have:=(h b).2 (List.mem_cons_self ..); cases this
 | a :: l,[],_,_,h=>by have:=(h a).1 (List.mem_cons_self ..); cases this
 | a :: l,b :: m,h1,h2,h=>by
  obtain ⟨a1,a2⟩:=List.pairwise_cons.1 h1
  obtain ⟨b1,b2⟩:=List.pairwise_cons.1 h2
  have hab:a = b:=by
   have q1:=(h a).1 (List.mem_cons_self ..)
   have q2:=(h b).2 (List.mem_cons_self ..)
   rcases List.mem_cons.1 q1 with e | e
   ·exact e
   ·rcases List.mem_cons.1 q2 with e' | e'
    ·exact e'.symm
    ·have:=b1 a e; have:=a1 b e'; omega
  subst hab
  rw [aEm a2 b2 fun x=>?_]
  constructor
  ·intro hx
   rcases List.mem_cons.1 ((h x).1 (List.mem_cons_of_mem _ hx)) with e | e
   ·subst e; have:=a1 x hx; omega
   ·exact e
  ·intro hx
   rcases List.mem_cons.1 ((h x).2 (List.mem_cons_of_mem _ hx)) with e | e
   ·subst e; have:=b1 x hx; omega
   ·exact e
theorem RE {x y:Int}:∀ {l:List Int},y ∈ rM x l ↔ y = x ∨ y ∈ l
 | []=>by simp [rM]
 | a :: l=>by
  unfold rM
  split
  ·simp
  ·split
   ·rename_i e; subst e; simp
   ·simp only [List.mem_cons,RE (l:=l)]
    constructor
    ·rintro (h | h | h)
     ·exact .inr (.inl h)
     ·exact .inl h
     ·exact .inr (.inr h)
    ·rintro (h | h | h)
     ·exact .inr (.inl h)
     ·exact .inl h
     ·exact .inr (.inr h)
theorem ZS {x:Int}:∀ {l:List Int},G3 l->G3 (rM x l)
 | [],_=>by simp [rM,G3]
 | a :: l,h=>by
  obtain ⟨h1,h2⟩:=List.pairwise_cons.1 h
  unfold rM
  split
  ·rename_i hlt
   refine List.pairwise_cons.2 ⟨fun y hy=>?_,h⟩
   rcases List.mem_cons.1 hy with e | e
   ·omega
   ·have:=h1 y e; omega
  ·split
   ·exact h
   ·rename_i q1 q2
    refine List.pairwise_cons.2 ⟨fun y hy=>?_,ZS h2⟩
    rcases RE.1 hy with e | e
    ·omega
    ·exact h1 y e
theorem aQv (l:List Int):∀ s:List Int,G3 s->G3 (l.foldl (fun s x=>rM x s) s) ∧ ∀ y,y ∈ l.foldl (fun s x=>rM x s) s ↔ y ∈ l ∨ y ∈ s:=by
 induction l with
 | nil=>intro s hs; exact ⟨hs,fun y=>by simp⟩
 | cons a l ih =>
  intro s hs
  obtain ⟨h1,h2⟩:=ih (rM a s) (ZS hs)
  refine ⟨h1,fun y=>?_⟩
  show y ∈ l.foldl (fun s x=>rM x s) (rM a s) ↔ _
  rw [h2 y,RE,List.mem_cons]
  constructor
  ·rintro (h | h | h)
   ·exact .inl (.inr h)
   ·exact .inl (.inl h)
   ·exact .inr h
  ·rintro ((h | h) | h)
   ·exact .inr (.inl h)
   ·exact .inl h
   ·exact .inr (.inr h)
theorem UC (l:List Int):G3 (AN l):=(aQv l [] List.Pairwise.nil).1
theorem aGR {l:List Int} {y:Int}:y ∈ AN l ↔ y ∈ l:=by
 rw [AN,(aQv l [] List.Pairwise.nil).2 y]; simp
theorem OP {l:List Int} {y:Int}:y ∈ Lib.compact l ↔ y ∈ l:=by
 unfold Lib.compact Lib.compactUpTo
 rw [List.mem_map]
 constructor
 ·rintro ⟨j,hj,rfl⟩
  have:=List.mem_range.1 (List.mem_filter.1 hj).1
  simp [getElem!_pos,this]
 ·intro hy
  obtain ⟨j,hj,e⟩:=List.mem_iff_getElem.1 hy
  -- the first place that holds it
  have key:∀ n j,j <= n->(hj:j < l.length)->l[j] = y->∃ k,k ∈ (List.range l.length).filter (Lib.keeps l.toArray) ∧ l.toArray[k]! = y:=by
   intro n
   induction n with
   | zero =>
    intro j hj0 hj e
    refine ⟨j,List.mem_filter.2 ⟨List.mem_range.2 hj,?_⟩,by simp [getElem!_pos,hj,e]⟩
    simp [Lib.keeps]; omega
   | succ n ih =>
    intro j hjn hj e
    by_cases c:Lib.keeps l.toArray j = true
    ·exact ⟨j,List.mem_filter.2 ⟨List.mem_range.2 hj,c⟩,by simp [getElem!_pos,hj,e]⟩
    ·have c' : ¬ (j = 0 ∨ l.toArray[j]! ≠ l.toArray[j - 1]!):=fun q=>c (by simp only [Lib.keeps]; exact decide_eq_true q)
     have hj0:j ≠ 0:=fun q=>c' (.inl q)
     have heq:l.toArray[j]! = l.toArray[j - 1]!:=Classical.byContradiction fun q=>c' (.inr q)
     have hj1:j - 1 < l.length:=by omega
     refine ih (j - 1) (by omega) hj1 ?_
     have a1:l.toArray[j]! = l[j]:=by simp [getElem!_pos,hj]
     have a2:l.toArray[j - 1]! = l[j - 1]:=by simp [getElem!_pos,hj1]
     rw [← a2,← heq,a1,e]
  exact key j j (Nat.le_refl _) hj e
theorem O0 {l:List Int} (h:l.Pairwise (· <= ·)):G3 (Lib.compact l):=by
 unfold Lib.compact Lib.compactUpTo G3
 rw [List.pairwise_map]
 have hr:((List.range l.length).filter (Lib.keeps l.toArray)).Pairwise (· < ·):=List.Pairwise.filter _ List.pairwise_lt_range
 refine hr.imp_of_mem ?_
 intro i j hi hj hij
 have hi':=List.mem_range.1 (List.mem_filter.1 hi).1
 have hj':=List.mem_range.1 (List.mem_filter.1 hj).1
 have hk:=(List.mem_filter.1 hj).2
 simp only [Lib.keeps,decide_eq_true_eq] at hk
 have hj1:j - 1 < l.length:=by omega
 have a0:l.toArray[i]! = l[i]:=by simp [getElem!_pos,hi']
 have a1:l.toArray[j]! = l[j]:=by simp [getElem!_pos,hj']
 have a2:l.toArray[j - 1]! = l[j - 1]:=by simp [getElem!_pos,hj1]
 rw [a0,a1]
 rw [a1,a2] at hk
 have p1:l[j - 1] <= l[j]:=List.pairwise_iff_getElem.1 h (j - 1) j hj1 hj' (by omega)
 have p2:l[i] <= l[j - 1]:=by
  by_cases e:i = j - 1
  ·subst e; exact Int.le_refl _
  ·exact List.pairwise_iff_getElem.1 h i (j - 1) hi' hj1 (by omega)
 rcases hk with e | e
 ·omega
 ·omega
theorem L5 (l:List Int):Lib.compact (l.mergeSort fun x y=>decide (x <= y)) = AN l:=by
 have hp:(l.mergeSort fun x y=>decide (x <= y)).Pairwise (· <= ·):=by
  have:=List.pairwise_mergeSort (le:=fun (x y:Int)=>decide (x <= y)) (fun a b c h1 h2=>by simp at *; omega) (fun a b=>by simp; omega) l
  exact this.imp fun h=>by simpa using h
 refine aEm (O0 hp) (UC l) fun x=>?_
 rw [OP,aGR,List.mem_mergeSort]
end Vm
end Go.Proofs.Ytgjcnbgfaimepaa
