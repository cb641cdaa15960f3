/- Law 42, the reference: how much can be moved, and moving it. -/
import Derived.Test.YtgipgbhlibafhaaPRef42c
import Derived.Test.YtgipgbhlibafhaaFlow7
set_option linter.unusedVariables false
set_option linter.unusedSimpArgs false
namespace Go.Proofs.Ytgipgbhlibafhaa
open Go.RowKit Vm
section
variable {n:Nat} {dues:List GDue} {x:List Int} {l:List GClearingStep}
def OfG (dues:List GDue) (x:List Int) (l:List GClearingStep):Prop:=∀ g ∈ l,∃ i b,i < dues.length ∧ g = stpG dues (el x) i b
theorem slack_m (h:OkD n dues) (hl:x.length = dues.length) (hr:InR (smD dues) dues.length (el x)) (hG:OfG dues x l) {w:List Int} (hw:∀ j,j < w.length→∃ k:Nat,el w j = k ∧ k < l.length) (hwl:w.length ≤ 1000) (most:Int) :
  ∃ d,mallongeref42_slack dues x (l.map toR) w most = some d ∧ d ≤ most ∧ (∀ j,j < w.length→d ≤ (el l (el w j).toNat).most) ∧ (0 < most→(∀ j,j < w.length→0 < (el l (el w j).toNat).most)→0 < d):=by
 unfold mallongeref42_slack mallongeref42_slack_l1
 suffices hh:∃ y,Iter (fun (z:Int × Int)=>mallongeref42_slack_l1_s dues x (l.map toR) w z.1 z.2) (most,0) = some y ∧ (y ≤ most ∧ (∀ j,j < w.length→y ≤ (el l (el w j).toNat).most) ∧ (0 < most→(∀ j,j < w.length→0 < (el l (el w j).toNat).most)→0 < y)) by
  obtain ⟨y,h1,h2⟩:=hh
  exact ⟨y,by rw [h1]; rfl,h2⟩
 refine iter_for (step:=fun (z:Int × Int)=>mallongeref42_slack_l1_s dues x (l.map toR) w z.1 z.2) (fun k (a:Int)=>(a,(k:Int))) w.length (fun k y=>y ≤ most ∧ (∀ j,j < k→y ≤ (el l (el w j).toNat).most) ∧ (0 < most→(∀ j,j < k→0 < (el l (el w j).toNat).most)→0 < y)) _ ?_ ?_ _ ⟨Int.le_refl _,fun j hj=>absurd hj (Nat.not_lt_zero _),fun q _=>q⟩
 ·rintro j a hj ⟨i1,i2,i3⟩
  obtain ⟨k,ek,hk⟩:=hw j hj
  obtain ⟨i,b,hi,eg⟩:=hG _ (el_mem _ _ hk)
  have hd:=h.each i hi
  have hx:=hr i hi
  unfold smD at hx
  refine .inl ⟨if (el l k).most < a then (el l k).most else a,?_,?_,?_,?_⟩
  ·show mallongeref42_slack_l1_s dues x (l.map toR) w a j = _
   unfold mallongeref42_slack_l1_s
   have c0:decide ((j:Int) < (w.length:Int)) = true:=by simpa using hj
   have w3:IntKind.wrap .i64 ((j:Int) + 1) = ((j + 1:Nat):Int):=wrap_succ (by omega)
   have eG:at? (l.map toR) (k:Int) = some (toR (stpG dues (el x) i b)):=by rw [at?_nat,List.getElem?_map,atE l k hk,eg]; rfl
   have eX:at? x (toR (stpG dues (el x) i b)).Due = some (el x i):=atI_el x i (by omega)
   have eD:at? dues (toR (stpG dues (el x) i b)).Due = some (el dues i):=atI_el dues i hi
   have wS:IntKind.wrap .i64 ((el dues i).Sum - el x i) = (el dues i).Sum - el x i:=wrap_id (by omega) (by omega)
   simp only [if_pos c0,atI_el w j hj,Option.bind_some,ek,eG,eX,eD,w3,wS]
   rw [eg]
   cases b with
   | true =>
    have c1:¬ decide ((toR (stpG dues (el x) i true)).Cost < 0) = true:=by simp [toR,stpG]
    rw [if_neg c1]; rfl
   | false =>
    have c1:decide ((toR (stpG dues (el x) i false)).Cost < 0) = true:=by simp [toR,stpG]
    rw [if_pos c1]; rfl
  ·split <;> omega
  ·intro j' hj'
   by_cases e:j' = j
   ·subst e
    rw [ek,Int.toNat_natCast]
    split <;> omega
   ·have:=i2 j' (by omega)
    split <;> omega
  ·intro q1 q2
   have a1:=i3 q1 fun j' hj'=>q2 j' (by omega)
   have a2:=q2 j (by omega)
   rw [ek,Int.toNat_natCast] at a2
   split <;> omega
 ·rintro a hI
  refine ⟨a,?_,hI⟩
  show mallongeref42_slack_l1_s dues x (l.map toR) w a w.length = _
  unfold mallongeref42_slack_l1_s
  rw [if_neg (by simp)]
theorem turn_m (h:OkD n dues) (hl:x.length = dues.length) (hr:InR (smD dues) dues.length (el x)) (hG:OfG dues x l) {ks:List Nat} (hk:∀ k ∈ ks,k < l.length) (hkl:ks.length ≤ 1000) {d:Int} (hd:0 ≤ d) (hd2:d ≤ 1099511627776) :
  mallongeref42_turn (l.map toR) (ks.map fun (k:Nat)=>(k:Int)) x d = some (mvL (l.map stpOf) d x ks):=by
 unfold mallongeref42_turn mallongeref42_turn_l1
 have hlen:=h.len
 rw [if_pos (by omega),List.nil_append]
 suffices hh:∃ y,Iter (fun (z:Int × List Int)=>mallongeref42_turn_l1_s (l.map toR) (ks.map fun (k:Nat)=>(k:Int)) d z.1 z.2) (0,x) = some y ∧ y = mvL (l.map stpOf) d x ks by
  obtain ⟨y,h1,h2⟩:=hh
  rw [h1,h2]; rfl
 refine iter_for (step:=fun (z:Int × List Int)=>mallongeref42_turn_l1_s (l.map toR) (ks.map fun (k:Nat)=>(k:Int)) d z.1 z.2) (fun k (a:List Int)=>((k:Int),a)) ks.length (fun j a=>a = mvL (l.map stpOf) d x (ks.take j) ∧ ∀ i,-(1099511627776 + (j:Int) * 1099511627776) ≤ el a i ∧ el a i ≤ 1099511627776 + (j:Int) * 1099511627776) _ ?_ ?_ _ ⟨rfl,fun i=>?_⟩
 ·rintro j a hj ⟨rfl,hb⟩
  have hkj:=hk _ (el_mem _ _ hj)
  obtain ⟨i,b,hi,eg⟩:=hG _ (el_mem _ _ hkj)
  have hal:(mvL (l.map stpOf) d x (ks.take j)).length = dues.length:=by rw [mvL_len,hl]
  rw [take_el ks hj,mvL_snoc,el_map' stpOf l _ hkj,eg]
  have e1:(stpOf (stpG dues (el x) i b)).due.toNat = i:=by simp [stpOf,stpG]
  rw [e1]
  have hmulj:(j:Int) * 1099511627776 ≤ 1000 * 1099511627776:=by omega
  generalize mvL (l.map stpOf) d x (ks.take j) = a at *
  have hbi:=hb i
  have hsg:sgS (stpOf (stpG dues (el x) i b)) d = -(d * (if b = true then 1 else -1)):=by
   cases b <;> simp [sgS,stpOf,stpG]
  refine .inl ⟨_,?_,rfl,fun i'=>?_⟩
  ·show mallongeref42_turn_l1_s (l.map toR) (ks.map fun (k:Nat)=>(k:Int)) d j a = _
   unfold mallongeref42_turn_l1_s
   have c0:decide ((j:Int) < ((ks.map fun (k:Nat)=>(k:Int)).length:Int)) = true:=by rw [List.length_map]; simpa using hj
   have w3:IntKind.wrap .i64 ((j:Int) + 1) = ((j + 1:Nat):Int):=wrap_succ (by omega)
   have eK:at? (ks.map fun (k:Nat)=>(k:Int)) (j:Int) = some ((el ks j:Nat):Int):=by rw [at?_nat,List.getElem?_map,atE ks j hj]; rfl
   have eG:at? (l.map toR) ((el ks j:Nat):Int) = some (toR (stpG dues (el x) i b)):=by rw [at?_nat,List.getElem?_map,atE l _ hkj,eg]; rfl
   have cX:0 ≤ (toR (stpG dues (el x) i b)).Due ∧ (toR (stpG dues (el x) i b)).Due.toNat < a.length:=by
    show 0 ≤ (i:Int) ∧ (i:Int).toNat < a.length
    omega
   have eX:a[(toR (stpG dues (el x) i b)).Due.toNat]? = some (el a i):=by
    show a[(i:Int).toNat]? = _
    rw [Int.toNat_natCast]; exact atE a i (by omega)
   have hcost:(toR (stpG dues (el x) i b)).Cost = if b = true then 1 else -1:=rfl
   have w1:IntKind.wrap .i64 (d * (if b = true then 1 else -1)) = d * (if b = true then 1 else -1):=by cases b <;> simp <;> exact wrap_id (by omega) (by omega)
   have w2:IntKind.wrap .i64 (el a i - d * (if b = true then 1 else -1)) = el a i + sgS (stpOf (stpG dues (el x) i b)) d:=by
    rw [hsg,wrap_id (by cases b <;> simp <;> omega) (by cases b <;> simp <;> omega)]
    omega
   simp only [if_pos c0,eK,Option.bind_some,eG,if_pos cX,eX,hcost,w1,w2,w3]
   rfl
  ·rw [el_set_any]
   have hs2:-d ≤ sgS (stpOf (stpG dues (el x) i b)) d ∧ sgS (stpOf (stpG dues (el x) i b)) d ≤ d:=by rw [hsg]; cases b <;> simp <;> omega
   have e3:((j + 1:Nat):Int) * 1099511627776 = (j:Int) * 1099511627776 + 1099511627776:=by omega
   rw [e3]
   have:=hb i'
   split <;> omega
 ·rintro a ⟨rfl,_⟩
  rw [List.take_length]
  refine ⟨_,?_,rfl⟩
  show mallongeref42_turn_l1_s (l.map toR) (ks.map fun (k:Nat)=>(k:Int)) d (ks.length:Int) _ = _
  unfold mallongeref42_turn_l1_s
  rw [if_neg (by simp)]
 ·by_cases hi:i < dues.length
  ·have:=hr i hi; have:=h.each i hi; unfold smD at *; omega
  ·rw [show el x i = 0 by simp [el,show ¬ i < x.length by omega]]; omega
end
end Go.Proofs.Ytgipgbhlibafhaa
