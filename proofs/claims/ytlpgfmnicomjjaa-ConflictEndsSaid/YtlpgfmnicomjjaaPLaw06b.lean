/- The laws of layer 06 (graph): GraphShortest. -/
import Derived.Test.YtlpgfmnicomjjaaPCycle2
import Derived.Test.YtlpgfmnicomjjaaPLaw06
set_option linter.unusedVariables false
set_option linter.unusedSimpArgs false
namespace Go.Proofs.Ytlpgfmnicomjjaa
open Go.RowKit Vm
theorem walk_tos {E:Nat→Nat→Prop} {x:Nat→Nat} {s:Nat} (hE:∀ j,E (x j) (x (j + 1))) (hm:∀ j,s ≤ x j):∀ d q,x (q + d) = s→∃ k,k ≤ d ∧ Tos E s k (x q)
 | 0,q,h=>⟨0,Nat.le_refl _,by rw [show q = q + 0 from rfl,h]; exact .zero⟩
 | d + 1,q,h=>by
  by_cases e:x q = s
  ·exact ⟨0,Nat.zero_le _,by rw [e]; exact .zero⟩
  ·obtain ⟨k,h1,h2⟩:=walk_tos hE hm d (q + 1) (by rw [← h]; congr 1; omega)
   have:=hm q
   exact ⟨k + 1,by omega,.succ (by omega) (hE q) h2⟩
theorem least_at (x:Nat→Nat):∀ m,0 < m→∃ p,p < m ∧ ∀ j,j < m→x p ≤ x j
 | 0,h=>by omega
 | 1,_=>⟨0,by omega,fun j hj=>by
  have:j = 0:=by omega
  rw [this]
  exact Nat.le_refl _⟩
 | m + 2,_=>by
  obtain ⟨p,h1,h2⟩:=least_at x (m + 1) (by omega)
  by_cases c:x p ≤ x (m + 1)
  ·refine ⟨p,by omega,fun j hj=>?_⟩
   by_cases e:j = m + 1
   ·subst e; exact c
   ·exact h2 j (by omega)
  ·refine ⟨m + 1,by omega,fun j hj=>?_⟩
   by_cases e:j = m + 1
   ·subst e; exact Nat.le_refl _
   ·have:=h2 j (by omega); omega
theorem walk_cl {E:Nat→Nat→Prop} {x:Nat→Nat} {m:Nat} (hm:0 < m) (hE:∀ j,E (x j) (x (j + 1))) (hp:∀ j,x (j % m) = x j):∃ s k,Cl E s k ∧ k + 1 ≤ m ∧ ∃ j,s = x j:=by
 obtain ⟨p,h1,h2⟩:=least_at x m hm
 have hall:∀ j,x p ≤ x j:=fun j=>by rw [← hp j]; exact h2 _ (Nat.mod_lt _ hm)
 have hback:x (p + 1 + (m - 1)) = x p:=by
  rw [← hp (p + 1 + (m - 1)),show p + 1 + (m - 1) = p + m by omega,Nat.add_mod_right,Nat.mod_eq_of_lt h1]
 obtain ⟨k,h3,h4⟩:=walk_tos hE hall (m - 1) (p + 1) hback
 exact ⟨x p,k,⟨_,hE p,h4⟩,by omega,p,rfl⟩
theorem succ_mod (j m:Nat):(j % m + 1) % m = (j + 1) % m:=by simp [Nat.add_mod]
theorem CycSpec.some {E:Nat→Nat→Prop} {n s k:Nat} {c:List Nat} (h:CycSpec E n c) (hs:s < n) (hc:Cl E s k):CycG E c ∧ c.length ≤ k + 1:=by
 rcases h.1 with ⟨_,q⟩ | ⟨q1,q2⟩
 ·exact absurd hc (q s hs k)
 ·exact ⟨q1,(q2 s hs k hc).1⟩
theorem CycSpec.none {E:Nat→Nat→Prop} {n:Nat} {c:List Nat} (h:CycSpec E n c) (hn:c = []) {s k:Nat} (hs:s < n):¬ Cl E s k:=by
 rcases h.1 with ⟨_,q⟩ | ⟨q1,q2⟩
 ·exact q s hs k
 ·have:=q1.pos; rw [hn] at this; simp at this
end Go.Proofs.Ytlpgfmnicomjjaa
