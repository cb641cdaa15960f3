/- The laws of layer 06 (graph): GraphShortest. -/
import Derived.Test.YtlpgfmnicomjjaaPCycle2
import Derived.Test.YtlpgfmnicomjjaaPLaw06
set_option linter.unusedVariables false
set_option linter.unusedSimpArgs false
namespace Go.Proofs.Ytlpgfmnicomjjaa
open Go.RowKit Vm
def edgB (es:List GArr2I) (a b:Int):Bool:=es.any fun e=>e.e0 == a && e.e1 == b
theorem edgB_iff {es:List GArr2I} {a b:Int}:edgB es a b = true ↔ ∃ e ∈ es,e.e0 = a ∧ e.e1 = b:=by
 unfold edgB
 rw [List.any_eq_true]
 constructor
 ·rintro ⟨e,he,h⟩
  rw [Bool.and_eq_true,beq_iff_eq,beq_iff_eq] at h
  exact ⟨e,he,h⟩
 ·rintro ⟨e,he,h1,h2⟩
  exact ⟨e,he,by rw [h1,h2]; simp⟩
theorem edgB_nat {n:Nat} {es:List GArr2I} (hes:∀ e ∈ es,inE n e) {a b:Int} (h:edgB es a b = true):∃ i j:Nat,a = i ∧ b = j ∧ edg es i j ∧ i < n ∧ j < n:=by
 obtain ⟨e,he,rfl,rfl⟩:=edgB_iff.1 h
 have:=hes e he
 unfold inE at this
 exact ⟨e.e0.toNat,e.e1.toNat,by omega,by omega,⟨e,he,by omega,by omega⟩,by omega,by omega⟩
theorem edgB_edg {es:List GArr2I} {a b:Nat}:edgB es (a:Int) (b:Int) = true ↔ edg es a b:=edgB_iff
theorem Edge_eq (es:List GArr2I) (hl:es.length ≤ 100000) (a b:Int):mallongeref06_Edge es a b = some (edgB es a b):=by
 have l1:mallongeref06_Edge_l1 es a b 0 = some (if allN (fun i=>!((el es i).e0 == a && (el es i).e1 == b)) es.length = true then .inl () else .inr ()):=by
  unfold mallongeref06_Edge_l1
  refine iter_all? (step:=fun w=>mallongeref06_Edge_l1_s es a b w) (fun k:Nat=>(k:Int)) es.length _ () ?_ ?_
  ·intro k hk
   simp only [mallongeref06_Edge_l1_s,lt_t hk,if_true,at_el _ _ hk,Option.bind_some,wrap_succ (show k < 9223372036854775807 by omega)]
   cases (el es k).e0 == a <;> cases (el es k).e1 == b <;> rfl
  ·simp only [mallongeref06_Edge_l1_s,lt_f,if_false]
 unfold mallongeref06_Edge
 rw [l1]
 by_cases h:edgB es a b = true
 ·rw [h,if_neg]
  ·rfl
  ·intro q
   obtain ⟨e,he,h1,h2⟩:=edgB_iff.1 h
   obtain ⟨i,hi,rfl⟩:=mem_el he
   have:=allN_iff.1 q i hi
   simp [h1,h2] at this
 ·rw [Bool.not_eq_true] at h
  rw [h,if_pos]
  ·rfl
  ·rw [allN_iff]
   intro i hi
   cases c:((el es i).e0 == a && (el es i).e1 == b) with
   | false=>rfl
   | true =>
    rw [Bool.and_eq_true,beq_iff_eq,beq_iff_eq] at c
    rw [edgB_iff.2 ⟨_,el_mem es i hi,c.1,c.2⟩] at h
    cases h
theorem walk_tos {E:Nat→Nat→Prop} {x:Nat→Nat} {s:Nat} (hE:∀ j,E (x j) (x (j + 1))) (hm:∀ j,s ≤ x j):∀ d q,x (q + d) = s→∃ k,k ≤ d ∧ Tos E s k (x q)
 | 0,q,h=>⟨0,Nat.le_refl _,by rw [show q = q + 0 from rfl,h]; exact .zero⟩
 | d + 1,q,h=>by
  by_cases e:x q = s
  ·exact ⟨0,Nat.zero_le _,by rw [e]; exact .zero⟩
  ·obtain ⟨k,h1,h2⟩:=walk_tos hE hm d (q + 1) (by rw [← h]; congr 1; omega)
   have:=hm q
   exact ⟨k + 1,by omega,.succ (by omega) (hE q) h2⟩
theorem least_at (x:Nat→Nat):∀ m,0 < m→∃ p,p < m ∧ ∀ j,j < m→x p ≤ x j
 | 0,h=>by omega
 | 1,_=>⟨0,by omega,fun j hj=>by
  have:j = 0:=by omega
  rw [this]
  exact Nat.le_refl _⟩
 | m + 2,_=>by
  obtain ⟨p,h1,h2⟩:=least_at x (m + 1) (by omega)
  by_cases c:x p ≤ x (m + 1)
  ·refine ⟨p,by omega,fun j hj=>?_⟩
   by_cases e:j = m + 1
   ·subst e; exact c
   ·exact h2 j (by omega)
  ·refine ⟨m + 1,by omega,fun j hj=>?_⟩
   by_cases e:j = m + 1
   ·subst e; exact Nat.le_refl _
   ·have:=h2 j (by omega); omega
theorem walk_cl {E:Nat→Nat→Prop} {x:Nat→Nat} {m:Nat} (hm:0 < m) (hE:∀ j,E (x j) (x (j + 1))) (hp:∀ j,x (j % m) = x j):∃ s k,Cl E s k ∧ k + 1 ≤ m ∧ ∃ j,s = x j:=by
 obtain ⟨p,h1,h2⟩:=least_at x m hm
 have hall:∀ j,x p ≤ x j:=fun j=>by rw [← hp j]; exact h2 _ (Nat.mod_lt _ hm)
 have hback:x (p + 1 + (m - 1)) = x p:=by
  rw [← hp (p + 1 + (m - 1)),show p + 1 + (m - 1) = p + m by omega,Nat.add_mod_right,Nat.mod_eq_of_lt h1]
 obtain ⟨k,h3,h4⟩:=walk_tos hE hall (m - 1) (p + 1) hback
 exact ⟨x p,k,⟨_,hE p,h4⟩,by omega,p,rfl⟩
theorem tmod_nat (a b:Nat):Int.tmod (a:Int) (b:Int) = ((a % b:Nat):Int):=by
 rw [Int.ofNat_tmod]
theorem succ_mod (j m:Nat):(j % m + 1) % m = (j + 1) % m:=by simp [Nat.add_mod]
theorem list_cl {n:Nat} {es:List GArr2I} (hes:∀ e ∈ es,inE n e) {w:List Int} (hw:0 < w.length) (h:∀ i,i < w.length→edgB es (el w i) (el w ((i + 1) % w.length)) = true):∃ s k,Cl (edg es) s k ∧ k + 1 ≤ w.length ∧ s < n:=by
 have hnat:∀ i,i < w.length→((el w i).toNat:Int) = el w i ∧ (el w i).toNat < n:=by
  intro i hi
  obtain ⟨a,b,h1,h2,h3,h4,h5⟩:=edgB_nat hes (h i hi)
  rw [h1,Int.toNat_natCast]
  exact ⟨rfl,h4⟩
 obtain ⟨s,k,h1,h2,j,h3⟩:=walk_cl (E:=edg es) (x:=fun j=>(el w (j % w.length)).toNat) hw (fun j=>by
  have hj:=Nat.mod_lt j hw
  have q:=h _ hj
  rw [succ_mod] at q
  rw [← (hnat _ hj).1,← (hnat _ (Nat.mod_lt (j + 1) hw)).1] at q
  exact edgB_edg.1 q) (fun j=>by show (el w (j % w.length % w.length)).toNat = _; rw [Nat.mod_mod])
 exact ⟨s,k,h1,h2,by rw [h3]; exact (hnat _ (Nat.mod_lt _ hw)).2⟩
theorem CycSpec.some {E:Nat→Nat→Prop} {n s k:Nat} {c:List Nat} (h:CycSpec E n c) (hs:s < n) (hc:Cl E s k):CycG E c ∧ c.length ≤ k + 1:=by
 rcases h.1 with ⟨_,q⟩ | ⟨q1,q2⟩
 ·exact absurd hc (q s hs k)
 ·exact ⟨q1,(q2 s hs k hc).1⟩
theorem CycSpec.none {E:Nat→Nat→Prop} {n:Nat} {c:List Nat} (h:CycSpec E n c) (hn:c = []) {s k:Nat} (hs:s < n):¬ Cl E s k:=by
 rcases h.1 with ⟨_,q⟩ | ⟨q1,q2⟩
 ·exact q s hs k
 ·have:=q1.pos; rw [hn] at this; simp at this
theorem law06_shortest (hsane:mallongelaw06_sane = some true) (n:Int) (es:List GArr2I) (w:List Int):mallongelaw06_GraphShortest n es w = some true:=by
 unfold mallongelaw06_GraphShortest
 rw [hsane,Option.bind_some,gmid_eq,Option.bind_some]
 by_cases hm:midG n es
 ·rw [decide_eq_true hm,if_neg (by simp)]
  by_cases h1:w.length = 0
  ·rw [if_pos (by simp [h1])]
  rw [if_neg (by rw [beq_iff_eq]; omega)]
  by_cases h2:w.length > 60
  ·rw [if_pos (decide_eq_true (by omega))]
  rw [if_neg (by simp; omega)]
  obtain ⟨m,rfl⟩ : ∃ m:Nat,n = m:=⟨n.toNat,by have:=hm.2.2.1.1; omega⟩
  have hl:=hm.2.1
  have hes:∀ e ∈ es,inE m e:=by have:=hm.2.2.2.2; simpa using this
  have l1:mallongelaw06_GraphShortest_l1 (m:Int) es w true 0 = some (if allN (fun i=>edgB es (el w i) (el w ((i + 1) % w.length))) w.length = true then .inl () else .inr ()):=by
   unfold mallongelaw06_GraphShortest_l1
   refine iter_all? (step:=fun z=>mallongelaw06_GraphShortest_l1_s (m:Int) es w true z) (fun k:Nat=>(k:Int)) w.length _ () ?_ ?_
   ·intro k hk
    have hmod:=Nat.mod_lt (k + 1) (show 0 < w.length by omega)
    simp only [mallongelaw06_GraphShortest_l1_s,lt_t hk,if_true,at_el _ _ hk,Option.bind_some,wrap_succ (show k < 9223372036854775807 by omega)]
    rw [if_neg (by omega),tmod_nat,at_el _ _ hmod,Option.bind_some,Edge_eq es (by omega),Option.bind_some]
    cases edgB es (el w k) (el w ((k + 1) % w.length)) <;> rfl
   ·simp only [mallongelaw06_GraphShortest_l1_s,lt_f,if_false]
  rw [l1]
  by_cases c:allN (fun i=>edgB es (el w i) (el w ((i + 1) % w.length))) w.length = true
  ·rw [if_pos c]
   simp only [Option.bind_some,Sum.elim_inl]
   obtain ⟨s,k,q1,q2,q3⟩:=list_cl hes (by omega) (allN_iff.1 c)
   obtain ⟨cy,e1,e2⟩:=Cycle_eq hm.2.2
   obtain ⟨p1,p2⟩:=e2.some q3 q1
   have:=p1.pos
   rw [e1,Option.bind_some,ci_len,if_pos trivial,if_pos (decide_eq_true (by omega)),decide_eq_true (by omega)]
  ·rw [if_neg c]; rfl
 ·rw [decide_eq_false hm,if_pos (by simp)]
end Go.Proofs.Ytlpgfmnicomjjaa
