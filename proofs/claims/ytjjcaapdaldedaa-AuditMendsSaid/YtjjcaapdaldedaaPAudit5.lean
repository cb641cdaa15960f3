/- package audit: the holes are shown by their places, and stand in order: AuditShows. -/
import Derived.Test.YtjjcaapdaldedaaPAudit4
set_option linter.unusedVariables false
set_option linter.unusedSimpArgs false
namespace Go.Proofs.Ytjjcaapdaldedaa
open Go.RowKit Vm
theorem aLb (r:aB) (ha:oV r) (f:Int) (hf:0 <= f ∧ f < (r.Orders.length:Int)) (q:Int) {h:aA} (e:h ∈ FL r f q):∃ pl',aD6 r f q r.Orders.length [f] [f,-1,-1,-1,-1] h pl':=by
 have hp:AF r [f] 1:=⟨rfl,by omega,by simp,fun x hx=>by rcases List.mem_singleton.1 hx with rfl; exact hf⟩
 refine O2 r ha f q 3 _ _ 1 r.Orders.length hp rfl rfl (fun i hi=>?_) h e
 match i,hi with
 | 0,_=>exact .inr hf
 | 1,_=>exact .inl rfl
 | 2,_=>exact .inl rfl
 | 3,_=>exact .inl rfl
 | 4,_=>exact .inl rfl
theorem SX {r:aB} {h:aA} (e:h ∈ vE r):∃ f q:Nat,f < r.Orders.length ∧ q < 22 ∧ h ∈ AL (rJ r f q):=by
 obtain ⟨f,hf,e⟩:=List.mem_flatMap.1 e
 obtain ⟨q,hq,e⟩:=List.mem_flatMap.1 e
 exact ⟨f,q,List.mem_range.1 hf,List.mem_range.1 hq,e⟩
theorem aAF (r:aB):∃ b,lF r = some b ∧ (b = true->NK r ∧ r.Orders.length <= 3):=by
 obtain ⟨b,e,h⟩:=aEz r
 unfold lF
 rw [e]
 cases b with
 | false=>exact ⟨false,rfl,fun h=>nomatch h⟩
 | true =>
  refine ⟨decide ((r.Orders.length:Int) <= 3),rfl,fun q=>⟨h rfl,?_⟩⟩
  have:=of_decide_eq_true q
  omega
theorem aCb (r:aB) (fw:NK r) (w:aB.wf r) (hn:r.Orders.length <= 3) {e:Int} (h:fB r = some (if e = 0 then vE r else [],e)):iX r = some (decide (e = 0) && decide ((vE r).length = 0)):=by
 unfold iX
 rw [h]
 simp only [Option.bind_some,beq_iff_eq]
 by_cases h0:e = 0
 ·subst h0
  simp only [if_true,decide_true,Bool.true_and]
  rw [Bool.beq_eq_decide_eq]
  congr 1
  simp
 ·simp only [h0,if_false,decide_false,Bool.false_and]
end Go.Proofs.Ytjjcaapdaldedaa
