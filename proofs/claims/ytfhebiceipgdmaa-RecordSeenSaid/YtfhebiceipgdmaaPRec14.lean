/- What the functions of layer 14 answer: facts, the file of a day, the day of sight. -/
import Derived.Test.YtfhebiceipgdmaaFn
import Derived.Test.YtfhebiceipgdmaaTy
import Derived.Test.YtfhebiceipgdmaaVmG
set_option linter.unusedVariables false
set_option linter.unusedSimpArgs false
namespace Go.Proofs.Ytfhebiceipgdmaa
open Go.RowKit Vm
theorem HR {α X:Type} [Inhabited α] (h:α→Option X) (l:List α):h9 (fun i=>h (el l i)) 0 l.length = l.findSome? h:=by
 have key:∀ (m k:Nat),k + m = l.length→h9 (fun i=>h (el l i)) k m = (l.drop k).findSome? h:=by
  intro m
  induction m with
  | zero=>intro k hk; rw [List.drop_eq_nil_of_le (by omega)]; rfl
  | succ m ih =>
   intro k hk
   have hl:k < l.length:=by omega
   rw [List.drop_eq_getElem_cons hl,List.findSome?_cons]
   simp only [h9,vL l k hl]
   cases h l[k] with
   | some x=>rfl
   | none=>exact ih (k + 1) (by omega)
 exact (key l.length 0 (by omega)).trans (by rw [List.drop_zero])
theorem vO {α:Type} [Inhabited α] (p:α→Bool):∀ (l:List α) (i:Nat),i ≤ l.length→(∀ j,j < i→p (el l j) = true)→(i < l.length→p (el l i) = false)→l.takeWhile p = l.take i
 | [],i,_,_,_=>by simp
 | x :: l,0,_,_,h=>by
  have:p x = false:=h (by simp)
  simp [List.takeWhile,this]
 | x :: l,i + 1,hi,ha,h=>by
  have h0:p x = true:=ha 0 (by omega)
  simp only [List.takeWhile,h0,List.take_succ_cons]
  rw [vO p l i (by simpa using hi) (fun j hj=>ha (j + 1) (by omega)) (fun q=>h (by simpa using q))]
theorem H3 {α:Type} [Inhabited α] (p:α→Bool) (l:List α):jQ (fun i=>if p (el l i) = true then none else some (l.take i)) l 0 l.length = l.takeWhile p:=by
 rcases AY (fun i=>if p (el l i) = true then none else some (l.take i)) l l.length 0 with ⟨h1,h2⟩ | ⟨i,x,_,h2,h3,h4,h5⟩
 ·rw [h1,vO p l l.length (Nat.le_refl _) (fun j hj=>by have:=h2 j (Nat.zero_le _) (by omega); split at this <;> first | assumption | cases this) (fun q=>absurd q (by omega)),List.take_length]
 ·rw [h4]
  split at h3
  ·cases h3
  ·rename_i hn
   cases h3
   exact (vO p l i (by omega) (fun j hj=>by have:=h5 j (Nat.zero_le _) hj; split at this <;> first | assumption | cases this) (fun _=>by simpa using hn)).symm
theorem tE {α:Type} (p:α→Bool) (l:List α):l.take (l.takeWhile p).length = l.takeWhile p:=by
 obtain ⟨t,ht⟩:=List.takeWhile_prefix p (l:=l)
 conv=>lhs; arg 2; rw [← ht]
 exact List.take_left
theorem P6 {α:Type} (p:α→Bool) (l:List α):(l.takeWhile p).length ≤ l.length:=(List.takeWhile_prefix p).length_le
theorem AD {α:Type} [Inhabited α] (l:List α) (i:Nat) (h:i < l.length):l.take (i + 1) = l.take i ++ [el l i]:=by
 rw [vL l i h]; exact List.take_succ_eq_append_getElem h
theorem xN {α:Type} [Inhabited α] (p:α→Bool) (l:List α) (i:Nat) (h:i < l.length):(l.take (i + 1)).filter p = if p (el l i) = true then (l.take i).filter p ++ [el l i] else (l.take i).filter p:=by
 rw [AD l i h,List.filter_append]
 cases hp:p (el l i) <;> simp [hp]
theorem A5 {α:Type} (p:α→Bool) (l:List α) (i:Nat):((l.take i).filter p).length ≤ l.length :=
 Nat.le_trans (List.length_filter_le _ _) (by rw [List.length_take]; omega)
theorem PR {α:Type} (l:List α) (i:Nat):(l.take i).length ≤ l.length:=by rw [List.length_take]; omega
structure aJm (f:aB):Prop where
 s:f.Signs.length ≤ 50
 l:f.Alters.length ≤ 10
 a:f.Acts.length ≤ 110
 t:f.Facts.length ≤ 220
theorem PN (f:aB):iA f = some (decide (f.Signs.length ≤ 50 ∧ f.Alters.length ≤ 10 ∧ f.Acts.length ≤ 110 ∧ f.Facts.length ≤ 220)):=by
 unfold iA
 by_cases h1:f.Signs.length ≤ 50
 ·rw [if_pos (decide_eq_true (by omega))]
  by_cases h2:f.Alters.length ≤ 10
  ·rw [if_pos (decide_eq_true (by omega))]
   by_cases h3:f.Acts.length ≤ 110
   ·rw [if_pos (decide_eq_true (by omega))]
    exact congrArg some (decide_eq_decide.2 ⟨fun q=>⟨h1,h2,h3,by omega⟩,fun q=>by omega⟩)
   ·rw [if_neg (fun q=>h3 (by have:=of_decide_eq_true q; omega)),decide_eq_false (fun q=>h3 q.2.2.1)]
  ·rw [if_neg (fun q=>h2 (by have:=of_decide_eq_true q; omega)),decide_eq_false (fun q=>h2 q.2.1)]
 ·rw [if_neg (fun q=>h1 (by have:=of_decide_eq_true q; omega)),decide_eq_false (fun q=>h1 q.1)]
def aJE (n:Int):aY:=aY.mk true (if n = 0 then 0 else 1)
def aJM (k a:Int) (x:bG):Option aY:=if x.Kind = k ∧ x.At = a then some (aJE x.N) else none
def JY (F:List bG) (k a:Int):aY:=(F.findSome? (aJM k a)).getD ⟨false,0⟩
end Go.Proofs.Ytfhebiceipgdmaa
