/- The laws of layer 06 (graph): GraphReaches. -/
import Derived.Test.YtlpgfmnicomjjaaPGraph
set_option linter.unusedVariables false
set_option linter.unusedSimpArgs false
namespace Go.Proofs.Ytlpgfmnicomjjaa
open Go.RowKit Vm
def midG (n:Int) (es:List GArr2I):Prop:=n ≤ 40 ∧ es.length ≤ 200 ∧ rightG n es
instance (n:Int) (es:List GArr2I):Decidable (midG n es):=by unfold midG; exact inferInstance
theorem gmid_eq (n:Int) (es:List GArr2I):mallongelaw06_middle n es = some (decide (midG n es)):=by
 unfold mallongelaw06_middle
 by_cases h1:n ≤ 40
 ·rw [if_pos (decide_eq_true h1)]
  by_cases h2:(es.length:Int) ≤ 200
  ·rw [if_pos (decide_eq_true h2),rright_eq,Option.bind_some]
   congr 1
   have:midG n es ↔ rightG n es:=⟨fun q=>q.2.2,fun q=>⟨h1,by omega,q⟩⟩
   simp only [this]
  ·rw [if_neg (by simpa using h2),decide_eq_false (fun q=>h2 (by have:=q.2.1; omega))]
 ·rw [if_neg (by simpa using h1),decide_eq_false (fun q=>h1 q.1)]
def closedB (es:List GArr2I) (set:List Bool):Bool:=allN (fun i=>!(el set (el es i).e0.toNat) || el set (el es i).e1.toNat) es.length
theorem at_nat {α:Type} [Inhabited α] {l:List α} {n:Nat} {x:Int} (hl:l.length = n) (h:0 ≤ x ∧ x < (n:Int)):at? l x = some (el l x.toNat):=at_eq l x h.1 (by omega)
theorem closed_eq {n:Nat} {es:List GArr2I} (hes:∀ e ∈ es,inE n e) (hl:es.length ≤ 2000) {set:List Bool} (hs:set.length = n):mallongelaw06_closed es set = some (closedB es set):=by
 have l1:mallongelaw06_closed_l1 es set 0 = some (if closedB es set = true then .inl () else .inr ()):=by
  unfold mallongelaw06_closed_l1 closedB
  refine iter_all? (step:=fun w=>mallongelaw06_closed_l1_s es set w) (fun k:Nat=>(k:Int)) es.length _ () ?_ ?_
  ·intro k hk
   have he:=hes _ (el_mem es k hk)
   simp only [mallongelaw06_closed_l1_s,lt_t hk,if_true,at_el _ _ hk,Option.bind_some,at_nat hs he.1,at_nat hs he.2,wrap_succ (show k < 9223372036854775807 by omega)]
   cases el set (el es k).e0.toNat <;> cases el set (el es k).e1.toNat <;> rfl
  ·simp only [mallongelaw06_closed_l1_s,lt_f,if_false]
 unfold mallongelaw06_closed
 rw [l1]
 cases closedB es set <;> rfl
theorem closedB_iff {n:Nat} {es:List GArr2I} (hes:∀ e ∈ es,inE n e) {set:List Bool}:closedB es set = true ↔ ∀ a b,edg es a b→el set a = true→el set b = true:=by
 unfold closedB
 rw [allN_iff]
 constructor
 ·intro h a b hab ha
  obtain ⟨e,he,h1,h2⟩:=hab
  obtain ⟨i,hi,rfl⟩:=mem_el he
  have:=h i hi
  rw [h1,h2] at this
  simp only [Int.toNat_natCast,ha,Bool.not_true,Bool.false_or] at this
  exact this
 ·intro h i hi
  have he:=hes _ (el_mem es i hi)
  have hab:edg es (el es i).e0.toNat (el es i).e1.toNat:=⟨_,el_mem es i hi,by have:=he.1; omega,by have:=he.2; omega⟩
  have:=h _ _ hab
  cases c:el set (el es i).e0.toNat
  ·rfl
  ·rw [this c]; rfl
theorem law06_reaches (hsane:mallongelaw06_sane = some true) (n:Int) (es:List GArr2I) (f:Int) (set:List Bool):mallongelaw06_GraphReaches n es f set = some true:=by
 unfold mallongelaw06_GraphReaches
 rw [hsane,Option.bind_some,gmid_eq,Option.bind_some]
 by_cases hm:midG n es
 ·rw [decide_eq_true hm,if_neg (by simp)]
  by_cases h1:f < 0
  ·rw [if_pos (decide_eq_true h1)]
  rw [if_neg (by simpa using h1)]
  by_cases h2:f ≥ n
  ·rw [if_pos (decide_eq_true h2)]
  rw [if_neg (by simpa using h2)]
  obtain ⟨m,rfl⟩ : ∃ m:Nat,n = m:=⟨n.toNat,by have:=hm.2.2.1.1; omega⟩
  obtain ⟨a,rfl⟩ : ∃ a:Nat,f = a:=⟨f.toNat,by omega⟩
  have ham:a < m:=by omega
  have hm40:m ≤ 40:=by have:=hm.1; omega
  have hl:=hm.2.1
  have hes:∀ e ∈ es,inE m e:=by have:=hm.2.2.2.2; simpa using this
  by_cases h3:set.length = m
  ·rw [if_neg (by simp [h3]),Reach_eq,if_pos ⟨hm.2.2,by omega,by omega⟩,Option.bind_some]
   simp only [Int.toNat_natCast]
   have hrl:=reachL_len m es a
   have hcl:closedB es (reachL m es a) = true:=(closedB_iff hes).2 fun x y hxy hx=>by
    obtain ⟨q1,q2⟩:=edg_lt hes hxy
    rw [reachL_el q1,rchB_iff] at hx
    rw [reachL_el q2,rchB_iff]
    exact hx.tail hxy
   rw [if_neg (by simp [hrl]),at_el _ _ (by rw [hrl]; exact ham),Option.bind_some,reachL_el ham,rchB_iff.2 .refl,if_neg (by simp),closed_eq hes (by omega) hrl,hcl,Option.bind_some,if_neg (by simp),
    at_el _ _ (by rw [h3]; exact ham),Option.bind_some]
   cases hsa:el set a with
   | false=>rfl
   | true =>
    rw [if_neg (by simp),closed_eq hes (by omega) h3,Option.bind_some]
    cases hc:closedB es set with
    | false=>rfl
    | true =>
     rw [if_neg (by simp)]
     have l1:mallongelaw06_GraphReaches_l1 (m:Int) set true (reachL m es a) 0 = some (.inl ()):=by
      unfold mallongelaw06_GraphReaches_l1
      refine iter_all (step:=fun w=>mallongelaw06_GraphReaches_l1_s (m:Int) set true (reachL m es a) w) (fun k:Nat=>(k:Int)) m (.inl ()) ?_ ?_
      ·intro k hk
       simp only [mallongelaw06_GraphReaches_l1_s,lt_t hk,if_true,at_el _ _ (show k < (reachL m es a).length by rw [hrl]; exact hk),at_el _ _ (show k < set.length by rw [h3]; exact hk),Option.bind_some,reachL_el hk,wrap_succ (show k < 9223372036854775807 by omega)]
       cases hr:rchB es a k with
       | false=>rfl
       | true =>
        have:el set k = true:=Rch.closed (fun i=>el set i = true) hsa (fun x y hx hxy=>(closedB_iff hes).1 hc x y hxy hx) (rchB_iff.1 hr)
        rw [this]; rfl
      ·simp only [mallongelaw06_GraphReaches_l1_s,lt_f,if_false]
     rw [l1]; rfl
  ·rw [if_pos (by simp; omega)]
 ·rw [decide_eq_false hm,if_pos (by simp)]
end Go.Proofs.Ytlpgfmnicomjjaa
