/- The laws of layer 06 (graph): GraphGroups, GraphGrows. -/
import Derived.Test.YtlpgfmnicomjjaaPGroups
set_option linter.unusedVariables false
set_option linter.unusedSimpArgs false
namespace Go.Proofs.Ytlpgfmnicomjjaa
open Go.RowKit Vm
theorem groupsN_len (n:Nat) (es:List GArr2I):(groupsN n es).length = (leadsN n es).length:=by simp [groupsN]
theorem leadsN_len (n:Nat) (es:List GArr2I):(leadsN n es).length ≤ n:=by
 have:=List.length_filter_le (fun a=>leadB es a) (List.range n)
 simpa [leadsN] using this
theorem grpN_len (n:Nat) (es:List GArr2I) (a:Nat):(grpN n es a).length ≤ n:=by
 have:=List.length_filter_le (fun b=>mutB es a b) (List.range n)
 simpa [grpN] using this
theorem lead_el {n:Nat} {es:List GArr2I} {i:Nat} (h:i < (leadsN n es).length):el (leadsN n es) i < n ∧ leadB es (el (leadsN n es) i) = true:=mem_leads.1 (el_mem _ i h)
theorem leads_inj {n:Nat} {es:List GArr2I} {i j:Nat} (hi:i < (leadsN n es).length) (hj:j < (leadsN n es).length) (h:mutB es (el (leadsN n es) i) (el (leadsN n es) j) = true):i = j:=by
 have e:=lead_eq (lead_el hi).2 (lead_el hj).2 h
 rcases Nat.lt_trichotomy i j with q | q | q
 ·have:=pw_el (leads_asc n es) q hj; omega
 ·exact q
 ·have:=pw_el (leads_asc n es) q hi; omega
theorem lead_at {n:Nat} {es:List GArr2I} {x:Nat} (hx:x < n):∃ i,i < (leadsN n es).length ∧ mutB es (el (leadsN n es) i) x = true:=by
 obtain ⟨c,h1,h2,h3⟩:=lead_of es x
 obtain ⟨i,hi,e⟩:=mem_el (mem_leads.2 ⟨show c < n by omega,h3⟩)
 exact ⟨i,hi,by rw [e]; exact mutB_symm h2⟩
def ofG (n:Nat) (es:List GArr2I) (i:Nat) (of:List Int):Prop:=of.length = n ∧ ∀ x,x < n→(el of x = 0 ∧ ∀ j,j < i→¬ mutB es (el (leadsN n es) j) x = true) ∨ ∃ j,j < i ∧ el of x = ((j + 1:Nat):Int) ∧ mutB es (el (leadsN n es) j) x = true
theorem ofG.get {n:Nat} {es:List GArr2I} {of:List Int} (h:ofG n es (leadsN n es).length of) (hz:∀ x,x < n→el of x ≠ 0) {x:Nat} (hx:x < n):∃ j,j < (leadsN n es).length ∧ el of x = ((j + 1:Nat):Int) ∧ mutB es (el (leadsN n es) j) x = true:=by
 rcases h.2 x hx with ⟨q,_⟩ | q
 ·exact absurd q (hz x hx)
 ·exact q
theorem ofG.same {n:Nat} {es:List GArr2I} {of:List Int} (h:ofG n es (leadsN n es).length of) (hz:∀ x,x < n→el of x ≠ 0) {x y:Nat} (hx:x < n) (hy:y < n):el of x = el of y ↔ mutB es x y = true:=by
 obtain ⟨i,hi,e1,m1⟩:=h.get hz hx
 obtain ⟨j,hj,e2,m2⟩:=h.get hz hy
 constructor
 ·intro q
  have:i = j:=by omega
  subst this
  exact mutB_trans (mutB_symm m1) m2
 ·intro q
  have:=leads_inj hi hj (mutB_trans m1 (mutB_trans q (mutB_symm m2)))
  subst this
  rw [e1,e2]
end Go.Proofs.Ytlpgfmnicomjjaa
