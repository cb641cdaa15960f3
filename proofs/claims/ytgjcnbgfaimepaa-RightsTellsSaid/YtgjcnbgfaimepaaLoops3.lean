/- Loops over plain states: what holds in each round, and a measure that falls. -/
import Derived.Test.YtgjcnbgfaimepaaVmG
namespace Go.Proofs.Ytgjcnbgfaimepaa
open Go.RowKit Vm
theorem K7 {S X:Type} {step:S->Option (S ⊕ X)} (I:S->Prop) (μ:S->Nat) (Q:X->Prop)
  (h:∀ s,I s->(∃ s',step s = some (.inl s') ∧ I s' ∧ μ s' < μ s) ∨ ∃ x,step s = some (.inr x) ∧ Q x):∀ s,I s->∃ x,bV step s = some x ∧ Q x:=by
 have key:∀ n s,μ s <= n->I s->∃ x,bV step s = some x ∧ Q x:=by
  intro n
  induction n with
  | zero =>
   intro s hs hI
   rcases h s hI with ⟨s',_,_,h3⟩ | ⟨x,h1,h2⟩
   ·omega
   ·exact ⟨x,pJ h1,h2⟩
  | succ n ih =>
   intro s hs hI
   rcases h s hI with ⟨s',h1,h2,h3⟩ | ⟨x,h1,h2⟩
   ·rw [uW h1]
    exact ih s' (by omega) h2
   ·exact ⟨x,pJ h1,h2⟩
 exact fun s hI=>key (μ s) s (É _) hI
theorem bO {S A X:Type} {step:S->Option (S ⊕ X)} (st:Nat->A->S) (n:Nat) (I:Nat->A->Prop) (Q:X->Prop)
  (h:∀ k a,k < n->I k a->(∃ a',step (st k a) = some (.inl (st (k + 1) a')) ∧ I (k + 1) a') ∨ ∃ x,step (st k a) = some (.inr x) ∧ Q x)
  (he:∀ a,I n a->∃ x,step (st n a) = some (.inr x) ∧ Q x) (a:A) (h0:I 0 a):∃ x,bV step (st 0 a) = some x ∧ Q x:=by
 have key:∀ m k a,k + m = n->I k a->∃ x,bV step (st k a) = some x ∧ Q x:=by
  intro m
  induction m with
  | zero =>
   intro k a hk hI
   obtain rfl:k = n:=by omega
   obtain ⟨x,h1,h2⟩:=he a hI
   exact ⟨x,pJ h1,h2⟩
  | succ m ih =>
   intro k a hk hI
   rcases h k a (by omega) hI with ⟨a',h1,h2⟩ | ⟨x,h1,h2⟩
   ·rw [uW h1]
    exact ih (k + 1) a' (by omega) h2
   ·exact ⟨x,pJ h1,h2⟩
 exact key n 0 a (by omega) h0
end Go.Proofs.Ytgjcnbgfaimepaa
