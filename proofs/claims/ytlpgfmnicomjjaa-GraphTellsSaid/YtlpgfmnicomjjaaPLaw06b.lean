/- The laws of layer 06 (graph): GraphShortest. -/
import Derived.Test.YtlpgfmnicomjjaaPCycle2
import Derived.Test.YtlpgfmnicomjjaaPLaw06
set_option linter.unusedVariables false
set_option linter.unusedSimpArgs false
namespace Go.Proofs.Ytlpgfmnicomjjaa
open Go.RowKit Vm
def edgB (es:List GArr2I) (a b:Int):Bool:=es.any fun e=>e.e0 == a && e.e1 == b
theorem edgB_iff {es:List GArr2I} {a b:Int}:edgB es a b = true ↔ ∃ e ∈ es,e.e0 = a ∧ e.e1 = b:=by
 unfold edgB
 rw [List.any_eq_true]
 constructor
 ·rintro ⟨e,he,h⟩
  rw [Bool.and_eq_true,beq_iff_eq,beq_iff_eq] at h
  exact ⟨e,he,h⟩
 ·rintro ⟨e,he,h1,h2⟩
  exact ⟨e,he,by rw [h1,h2]; simp⟩
theorem edgB_nat {n:Nat} {es:List GArr2I} (hes:∀ e ∈ es,inE n e) {a b:Int} (h:edgB es a b = true):∃ i j:Nat,a = i ∧ b = j ∧ edg es i j ∧ i < n ∧ j < n:=by
 obtain ⟨e,he,rfl,rfl⟩:=edgB_iff.1 h
 have:=hes e he
 unfold inE at this
 exact ⟨e.e0.toNat,e.e1.toNat,by omega,by omega,⟨e,he,by omega,by omega⟩,by omega,by omega⟩
theorem edgB_edg {es:List GArr2I} {a b:Nat}:edgB es (a:Int) (b:Int) = true ↔ edg es a b:=edgB_iff
theorem CycSpec.some {E:Nat→Nat→Prop} {n s k:Nat} {c:List Nat} (h:CycSpec E n c) (hs:s < n) (hc:Cl E s k):CycG E c ∧ c.length ≤ k + 1:=by
 rcases h.1 with ⟨_,q⟩ | ⟨q1,q2⟩
 ·exact absurd hc (q s hs k)
 ·exact ⟨q1,(q2 s hs k hc).1⟩
theorem CycSpec.none {E:Nat→Nat→Prop} {n:Nat} {c:List Nat} (h:CycSpec E n c) (hn:c = []) {s k:Nat} (hs:s < n):¬ Cl E s k:=by
 rcases h.1 with ⟨_,q⟩ | ⟨q1,q2⟩
 ·exact q s hs k
 ·have:=q1.pos; rw [hn] at this; simp at this
end Go.Proofs.Ytlpgfmnicomjjaa
