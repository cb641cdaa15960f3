/- Loops. -/
import Derived.Test.YtoefdnkjcfoccaaDoorVmG
namespace Go.Proofs.YtoefdnkjcfoccaaDoor
open Go.RowKit Vm
theorem FG {S A X:Type} {step:S->Option (S ⊕ X)} (st:Nat->A->S) (n:Nat) (I:Nat->A->Prop) (Q:X->Prop)
  (h:∀ k a,k < n->I k a->(∃ a',step (st k a) = some (.inl (st (k + 1) a')) ∧ I (k + 1) a') ∨ ∃ x,step (st k a) = some (.inr x) ∧ Q x)
  (he:∀ a,I n a->∃ x,step (st n a) = some (.inr x) ∧ Q x) (a:A) (h0:I 0 a):∃ x,eJ step (st 0 a) = some x ∧ Q x:=by
 have key:∀ m k a,k + m = n->I k a->∃ x,eJ step (st k a) = some x ∧ Q x:=by
  intro m
  induction m with
  | zero =>
   intro k a hk hI
   obtain rfl:k = n:=by omega
   obtain ⟨x,h1,h2⟩:=he a hI
   exact ⟨x,jP h1,h2⟩
  | succ m ih =>
   intro k a hk hI
   rcases h k a (by omega) hI with ⟨a',h1,h2⟩ | ⟨x,h1,h2⟩
   ·rw [pH h1]
    exact ih (k + 1) a' (by omega) h2
   ·exact ⟨x,jP h1,h2⟩
 exact key n 0 a (by omega) h0
theorem PY {S A X:Type} {step:S->Option (S ⊕ X)} (st:Nat->A->S) (n:Nat) (f:Nat->A->A) (fin:A->X)
  (h:∀ k a,k < n->step (st k a) = some (.inl (st (k + 1) (f k a)))) (he:∀ a,step (st n a) = some (.inr (fin a))) (a:A) :
  eJ step (st 0 a) = some (fin ((List.range n).foldl (fun a k=>f k a) a)):=by
 have key:∀ m k a,k + m = n->eJ step (st k a) = some (fin ((List.range' k m).foldl (fun a k=>f k a) a)):=by
  intro m
  induction m with
  | zero =>
   intro k a hk
   obtain rfl:k = n:=by omega
   rw [jP (he a)]; rfl
  | succ m ih =>
   intro k a hk
   rw [pH (h k a (by omega)),ih (k + 1) _ (by omega),List.range'_succ,þ]
 rw [key n 0 a (by omega),List.range_eq_range']
end Go.Proofs.YtoefdnkjcfoccaaDoor
