/- Ascending lists, each number once. -/
import Derived.Test.YtgjcnbgfaimepaaNextD
import Derived.Lib.SlicesCompact
namespace Go.Proofs.Ytgjcnbgfaimepaa
namespace Vm
open Go.RowKit
def LG (l:List Int):Prop:=l.Pairwise (· < ·)
theorem aBL:∀ {l m:List Int},LG l->LG m->(∀ x,x ∈ l ↔ x ∈ m)->l = m
 | [],[],_,_,_=>rfl
 | [],b :: m,_,_,h=>by have:=(h b).2 (à ..); cases this
 | a :: l,[],_,_,h=>by have:=(h a).1 (à ..); cases this
 | a :: l,b :: m,h1,h2,h=>by
  obtain ⟨a1,a2⟩:=Þ.1 h1
  obtain ⟨b1,b2⟩:=Þ.1 h2
  have hab:a = b:=by
   have q1:=(h a).1 (à ..)
   have q2:=(h b).2 (à ..)
   rcases Ô.1 q1 with e | e
   ·exact e
   ·rcases Ô.1 q2 with e' | e'
    ·exact e'.symm
    ·have:=b1 a e; have:=a1 b e'; omega
  subst hab
  rw [aBL a2 b2 fun x=>?_]
  constructor
  ·intro hx
   rcases Ô.1 ((h x).1 (Õ _ hx)) with e | e
   ·subst e; have:=a1 x hx; omega
   ·exact e
  ·intro hx
   rcases Ô.1 ((h x).2 (Õ _ hx)) with e | e
   ·subst e; have:=b1 x hx; omega
   ·exact e
theorem TX {x y:Int}:∀ {l:List Int},y ∈ vI x l ↔ y = x ∨ y ∈ l
 | []=>by simp [vI]
 | a :: l=>by
  unfold vI
  split
  ·simp
  ·split
   ·rename_i e; subst e; simp
   ·simp only [Ô,TX (l:=l)]
    constructor
    ·rintro (h | h | h)
     ·exact .inr (.inl h)
     ·exact .inl h
     ·exact .inr (.inr h)
    ·rintro (h | h | h)
     ·exact .inr (.inl h)
     ·exact .inl h
     ·exact .inr (.inr h)
theorem ZF {x:Int}:∀ {l:List Int},LG l->LG (vI x l)
 | [],_=>by simp [vI,LG]
 | a :: l,h=>by
  obtain ⟨h1,h2⟩:=Þ.1 h
  unfold vI
  split
  ·rename_i hlt
   refine Þ.2 ⟨fun y hy=>?_,h⟩
   rcases Ô.1 hy with e | e
   ·omega
   ·have:=h1 y e; omega
  ·split
   ·exact h
   ·rename_i q1 q2
    refine Þ.2 ⟨fun y hy=>?_,ZF h2⟩
    rcases TX.1 hy with e | e
    ·omega
    ·exact h1 y e
theorem aQy (l:List Int):∀ s:List Int,LG s->LG (l.foldl (fun s x=>vI x s) s) ∧ ∀ y,y ∈ l.foldl (fun s x=>vI x s) s ↔ y ∈ l ∨ y ∈ s:=by
 induction l with
 | nil=>intro s hs; exact ⟨hs,fun y=>by simp⟩
 | cons a l ih =>
  intro s hs
  obtain ⟨h1,h2⟩:=ih (vI a s) (ZF hs)
  refine ⟨h1,fun y=>?_⟩
  show y ∈ l.foldl (fun s x=>vI x s) (vI a s) ↔ _
  rw [h2 y,TX,Ô]
  constructor
  ·rintro (h | h | h)
   ·exact .inl (.inr h)
   ·exact .inl (.inl h)
   ·exact .inr h
  ·rintro ((h | h) | h)
   ·exact .inr (.inl h)
   ·exact .inl h
   ·exact .inr (.inr h)
theorem aAL (l:List Int):LG (G5 l):=(aQy l [] List.Pairwise.nil).1
theorem aH4 {l:List Int} {y:Int}:y ∈ G5 l ↔ y ∈ l:=by
 rw [G5,(aQy l [] List.Pairwise.nil).2 y]; simp
theorem V2 {l:List Int} {y:Int}:y ∈ Lib.compact l ↔ y ∈ l:=by
 unfold Lib.compact Lib.compactUpTo
 rw [Ú]
 constructor
 ·rintro ⟨j,hj,rfl⟩
  have:=Ď.1 (ă.1 hj).1
  simp [ĝ,this]
 ·intro hy
  obtain ⟨j,hj,e⟩:=ē.1 hy
  -- the first place that holds it
  have key:∀ n j,j <= n->(hj:j < l.length)->l[j] = y->∃ k,k ∈ (List.range l.length).filter (Lib.keeps l.toArray) ∧ l.toArray[k]! = y:=by
   intro n
   induction n with
   | zero =>
    intro j hj0 hj e
    refine ⟨j,ă.2 ⟨Ď.2 hj,?_⟩,by simp [ĝ,hj,e]⟩
    simp [Lib.keeps]; omega
   | succ n ih =>
    intro j hjn hj e
    by_cases c:Lib.keeps l.toArray j = true
    ·exact ⟨j,ă.2 ⟨Ď.2 hj,c⟩,by simp [ĝ,hj,e]⟩
    ·have c' : ¬ (j = 0 ∨ l.toArray[j]! ≠ l.toArray[j - 1]!):=fun q=>c (by simp only [Lib.keeps]; exact Í q)
     have hj0:j ≠ 0:=fun q=>c' (.inl q)
     have heq:l.toArray[j]! = l.toArray[j - 1]!:=å fun q=>c' (.inr q)
     have hj1:j - 1 < l.length:=by omega
     refine ih (j - 1) (by omega) hj1 ?_
     have a1:l.toArray[j]! = l[j]:=by simp [ĝ,hj]
     have a2:l.toArray[j - 1]! = l[j - 1]:=by simp [ĝ,hj1]
     rw [← a2,← heq,a1,e]
  exact key j j (É _) hj e
theorem WH {l:List Int} (h:l.Pairwise (· <= ·)):LG (Lib.compact l):=by
 unfold Lib.compact Lib.compactUpTo LG
 rw [Ļ]
 have hr:((List.range l.length).filter (Lib.keeps l.toArray)).Pairwise (· < ·):=List.Pairwise.filter _ Ŋ
 refine hr.imp_of_mem ?_
 intro i j hi hj hij
 have hi':=Ď.1 (ă.1 hi).1
 have hj':=Ď.1 (ă.1 hj).1
 have hk:=(ă.1 hj).2
 simp only [Lib.keeps,Ò] at hk
 have hj1:j - 1 < l.length:=by omega
 have a0:l.toArray[i]! = l[i]:=by simp [ĝ,hi']
 have a1:l.toArray[j]! = l[j]:=by simp [ĝ,hj']
 have a2:l.toArray[j - 1]! = l[j - 1]:=by simp [ĝ,hj1]
 rw [a0,a1]
 rw [a1,a2] at hk
 have p1:l[j - 1] <= l[j]:=æ.1 h (j - 1) j hj1 hj' (by omega)
 have p2:l[i] <= l[j - 1]:=by
  by_cases e:i = j - 1
  ·subst e; exact į _
  ·exact æ.1 h i (j - 1) hi' hj1 (by omega)
 rcases hk with e | e
 ·omega
 ·omega
theorem S6 (l:List Int):Lib.compact (l.mergeSort fun x y=>decide (x <= y)) = G5 l:=by
 have hp:(l.mergeSort fun x y=>decide (x <= y)).Pairwise (· <= ·):=by
  have:=Ũ (le:=fun (x y:Int)=>decide (x <= y)) (fun a b c h1 h2=>by simp at *; omega) (fun a b=>by simp; omega) l
  exact this.imp fun h=>by simpa using h
 refine aBL (WH hp) (aAL l) fun x=>?_
 rw [V2,aH4,List.mem_mergeSort]
end Vm
end Go.Proofs.Ytgjcnbgfaimepaa
