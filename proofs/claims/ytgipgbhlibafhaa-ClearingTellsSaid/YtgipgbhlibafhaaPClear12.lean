/- Clearing: what Balanced and Proves say. -/
import Derived.Test.YtgipgbhlibafhaaPClear11
set_option linter.unusedVariables false
set_option linter.unusedSimpArgs false
namespace Go.Proofs.Ytgipgbhlibafhaa
open Go.RowKit Vm
section
variable {n:Nat} {dues:List GDue} {x q:List Int}
theorem netF_part (h:OkD n dues) {k:Nat} (hk:k ≤ dues.length) (hI:∀ i,i < k→0 ≤ el x i ∧ el x i ≤ smD dues i) (v:Nat):-(100 * 1099511627776) ≤ netF (frD dues) (ttD dues) k (el x) v ∧ netF (frD dues) (ttD dues) k (el x) v ≤ 100 * 1099511627776:=by
 have hb:=netF_bound (fr:=frD dues) (tt:=ttD dues) (x:=el x) (S:=1099511627776) (by omega) k (fun i hi=>by have:=hI i hi; have:=h.each i (by omega); unfold smD at *; omega) v
 have hlen:=h.len
 have:(k:Int) * 1099511627776 ≤ 100 * 1099511627776:=by omega
 omega
theorem balV_m (h:OkD n dues) (hl:x.length = dues.length) (v:Nat):∃ z,mallongeref42_Balanced_l2 n dues x v 0 0 = some z ∧ ((z = .inl (netF (frD dues) (ttD dues) dues.length (el x) v) ∧ InR (smD dues) dues.length (el x)) ∨ (z = .inr () ∧ ¬ InR (smD dues) dues.length (el x))):=by
 unfold mallongeref42_Balanced_l2
 have hlen:=h.len
 refine iter_for (step:=fun (w:Int × Int)=>mallongeref42_Balanced_l2_s n dues x v w.1 w.2) (fun k (a:Int)=>(a,(k:Int))) dues.length (fun k a=>a = netF (frD dues) (ttD dues) k (el x) v ∧ ∀ i,i < k→0 ≤ el x i ∧ el x i ≤ smD dues i) _ ?_ ?_ _ ⟨rfl,fun i hi=>absurd hi (Nat.not_lt_zero _)⟩
 ·rintro k a hk ⟨rfl,hI⟩
  have hd:=h.each k hk
  have c0:decide ((k:Int) < (dues.length:Int)) = true:=by simpa using hk
  have w3:IntKind.wrap .i64 ((k:Int) + 1) = ((k + 1:Nat):Int):=wrap_succ (by omega)
  have hb:=netF_part h (by omega:k ≤ dues.length) hI v
  have eX:at? x (k:Int) = some (el x k):=atI_el x k (by omega)
  have eD:=atI_el dues k hk
  by_cases hx:0 ≤ el x k ∧ el x k ≤ smD dues k
  ·refine .inl ⟨netF (frD dues) (ttD dues) (k + 1) (el x) v,?_,rfl,fun i hi=>?_⟩
   ·show mallongeref42_Balanced_l2_s n dues x v (netF (frD dues) (ttD dues) k (el x) v) k = _
    unfold mallongeref42_Balanced_l2_s
    rw [netF_succ]
    unfold smD at hx
    have d1:¬ decide (el x k < 0) = true:=by simp; omega
    have d2:¬ decide (el x k > (el dues k).Sum) = true:=by simp; omega
    have hj:∀ a:Int,-(1000 * 1099511627776) ≤ a→a ≤ 1000 * 1099511627776→mallongeref42_Balanced_j1 n dues x v k a = some (a + if ttD dues k = v then el x k else 0):=by
     intro a h1 h2
     unfold mallongeref42_Balanced_j1
     rw [eD,Option.bind_some,eX,Option.bind_some]
     by_cases e:ttD dues k = v
     ·have e' : ((el dues k).To == (v:Int)) = true:=by rw [beq_iff_eq]; unfold ttD at e; omega
      rw [if_pos e',if_pos e,wrap_id (by omega) (by omega)]
     ·have e' : ¬ ((el dues k).To == (v:Int)) = true:=by rw [beq_iff_eq]; unfold ttD at e; omega
      rw [if_neg e',if_neg e,Int.add_zero]
    simp only [if_pos c0,eX,eD,Option.bind_some,if_neg d1,if_neg d2,w3]
    by_cases e:frD dues k = v
    ·have e' : ((el dues k).From == (v:Int)) = true:=by rw [beq_iff_eq]; unfold frD at e; omega
     rw [if_pos e',wrap_id (by omega) (by omega),hj _ (by omega) (by omega),Option.bind_some,if_pos e]
     congr 3
     omega
    ·have e' : ¬ ((el dues k).From == (v:Int)) = true:=by rw [beq_iff_eq]; unfold frD at e; omega
     rw [if_neg e',hj _ (by omega) (by omega),Option.bind_some,if_neg e,Int.sub_zero]
   ·by_cases e:i = k
    ·subst e; exact hx
    ·exact hI i (by omega)
  ·refine .inr ⟨.inr (),?_,.inr ⟨rfl,fun q=>hx (q k hk)⟩⟩
   show mallongeref42_Balanced_l2_s n dues x v (netF (frD dues) (ttD dues) k (el x) v) k = _
   unfold mallongeref42_Balanced_l2_s
   rw [if_pos c0,eX,Option.bind_some]
   by_cases d1:el x k < 0
   ·rw [if_pos (decide_eq_true d1)]
   ·have d2:decide (el x k > (el dues k).Sum) = true:=by unfold smD at hx; simp; omega
    rw [if_neg (by simpa using d1),Option.bind_some,eD,Option.bind_some,if_pos d2]
 ·rintro a ⟨rfl,hI⟩
  refine ⟨_,?_,.inl ⟨rfl,hI⟩⟩
  show mallongeref42_Balanced_l2_s n dues x v _ dues.length = _
  unfold mallongeref42_Balanced_l2_s
  rw [if_neg (by simp)]
theorem balanced_m (h:OkD n dues):∃ b,mallongeref42_Balanced n dues x = some b ∧ (b = true ↔ x.length = dues.length ∧ Bald (frD dues) (ttD dues) (smD dues) n dues.length (el x)):=by
 unfold mallongeref42_Balanced
 have hnn:=h.nn
 by_cases hl:x.length = dues.length
 ·have c:¬ ((x.length:Int) != (dues.length:Int)) = true:=by simp [hl]
  rw [if_neg c]
  have key:∃ z,mallongeref42_Balanced_l3 n dues x 0 = some z ∧ ((z = .inl () ∧ ∀ v,v < n→InR (smD dues) dues.length (el x) ∧ netF (frD dues) (ttD dues) dues.length (el x) v = 0) ∨ (z = .inr () ∧ ¬ Bald (frD dues) (ttD dues) (smD dues) n dues.length (el x))):=by
   unfold mallongeref42_Balanced_l3
   refine iter_spec (step:=fun w=>mallongeref42_Balanced_l3_s n dues x w) (fun i:Nat=>(i:Int)) n (fun v=>InR (smD dues) dues.length (el x) ∧ netF (frD dues) (ttD dues) dues.length (el x) v = 0) _ ?_ ?_
   ·intro v hv
    have c0:decide ((v:Int) < (n:Int)) = true:=by simpa using hv
    have w3:IntKind.wrap .i64 ((v:Int) + 1) = ((v + 1:Nat):Int):=wrap_succ (by omega)
    obtain ⟨z,h1,h2⟩:=balV_m h hl v
    rcases h2 with ⟨rfl,h2⟩ | ⟨rfl,h2⟩
    ·by_cases e:netF (frD dues) (ttD dues) dues.length (el x) v = 0
     ·refine .inl ⟨?_,h2,e⟩
      show mallongeref42_Balanced_l3_s n dues x v = _
      unfold mallongeref42_Balanced_l3_s
      rw [if_pos c0,h1,e,w3]; rfl
     ·refine .inr ⟨.inr (),?_,fun _=>.inr ⟨rfl,fun B=>e (B.net v hv)⟩⟩
      show mallongeref42_Balanced_l3_s n dues x v = _
      unfold mallongeref42_Balanced_l3_s
      have e' : (netF (frD dues) (ttD dues) dues.length (el x) v != 0) = true:=by simpa using e
      rw [if_pos c0,h1,Option.bind_some]
      simp only [Sum.elim_inl,if_pos e']
    ·refine .inr ⟨.inr (),?_,fun _=>.inr ⟨rfl,fun B=>h2 fun i hi=>⟨B.lo i hi,B.hi i hi⟩⟩⟩
     show mallongeref42_Balanced_l3_s n dues x v = _
     unfold mallongeref42_Balanced_l3_s
     rw [if_pos c0,h1]; rfl
   ·refine ⟨.inl (),?_,fun hG=>.inl ⟨rfl,hG⟩⟩
    show mallongeref42_Balanced_l3_s n dues x n = _
    unfold mallongeref42_Balanced_l3_s
    rw [if_neg (by simp)]
  obtain ⟨z,h1,h2⟩:=key
  rw [h1,Option.bind_some]
  rcases h2 with ⟨rfl,h2⟩ | ⟨rfl,h2⟩
  ·refine ⟨true,rfl,fun _=>⟨hl,?_,?_,fun v hv=>(h2 v hv).2⟩,fun _=>rfl⟩
   ·intro i hi
    exact ((h2 _ (h.fr i hi)).1 i hi).1
   ·intro i hi
    exact ((h2 _ (h.fr i hi)).1 i hi).2
  ·exact ⟨false,rfl,fun q=>by (cases q),fun q=>absurd q.2 h2⟩
 ·have c:((x.length:Int) != (dues.length:Int)) = true:=by simp; omega
  rw [if_pos c]
  exact ⟨false,rfl,fun q=>by (cases q),fun q=>absurd q.1 hl⟩
structure ProvX (n:Nat) (dues:List GDue) (x q:List Int):Prop where
 len:x.length = dues.length
 lenQ:q.length = n
 bald:Bald (frD dues) (ttD dues) (smD dues) n dues.length (el x)
 rng:∀ v,v < n→-40 ≤ el q v ∧ el q v ≤ 40
 cert:Cert (frD dues) (ttD dues) (smD dues) dues.length (el x) (el q)
theorem pnet_m (h:OkD n dues) (hl:x.length = dues.length) (q:List Int):∃ z,mclearing_Proves_l1 n dues x q 0 (List.replicate n (0:Int)) = some z ∧ ((z = .inl (netL n dues (el x)) ∧ InR (smD dues) dues.length (el x)) ∨ (z = .inr () ∧ ¬ InR (smD dues) dues.length (el x))):=by
 unfold mclearing_Proves_l1
 have hlen:=h.len
 have hnn:=h.nn
 refine iter_for (step:=fun (w:Int × List Int)=>mclearing_Proves_l1_s n dues x q w.1 w.2) (fun k (a:List Int)=>((k:Int),a)) dues.length (fun k a=>(a.length = n ∧ ∀ v,v < n→el a v = netF (frD dues) (ttD dues) k (el x) v) ∧ ∀ i,i < k→0 ≤ el x i ∧ el x i ≤ smD dues i) _ ?_ ?_ _ ⟨⟨List.length_replicate,fun v hv=>by rw [el_replicate_any _ _ _ hv]; rfl⟩,fun i hi=>absurd hi (Nat.not_lt_zero _)⟩
 ·rintro k a hk ⟨⟨h1,h2⟩,hI⟩
  obtain ⟨⟨f1,f2⟩,⟨t1,t2⟩,hne,hs1,hs2⟩:=h.each k hk
  have c0:decide ((k:Int) < (dues.length:Int)) = true:=by simpa using hk
  have w3:IntKind.wrap .i64 ((k:Int) + 1) = ((k + 1:Nat):Int):=wrap_succ (by omega)
  have eX:at? x (k:Int) = some (el x k):=atI_el x k (by omega)
  have eD:=atI_el dues k hk
  by_cases hx:0 ≤ el x k ∧ el x k ≤ smD dues k
  ·have hT:(el dues k).To.toNat < n:=by omega
   have hF:(el dues k).From.toNat < n:=by omega
   have bT:=netF_part h (by omega:k ≤ dues.length) hI (el dues k).To.toNat
   have bF:=netF_part h (by omega:k ≤ dues.length) hI (el dues k).From.toNat
   have hnf:¬ (el dues k).From.toNat = (el dues k).To.toNat:=by omega
   unfold smD at hx
   refine .inl ⟨(a.set (el dues k).To.toNat (el a (el dues k).To.toNat + el x k)).set (el dues k).From.toNat (el a (el dues k).From.toNat - el x k),?_,⟨by simp [h1],fun v hv=>?_⟩,fun i hi=>?_⟩
   ·show mclearing_Proves_l1_s n dues x q k a = _
    unfold mclearing_Proves_l1_s
    have d1:¬ decide (el x k < 0) = true:=by simp; omega
    have d2:¬ decide (el x k > (el dues k).Sum) = true:=by simp; omega
    have cT:0 ≤ (el dues k).To ∧ (el dues k).To.toNat < a.length:=⟨t1,by omega⟩
    have eT:a[(el dues k).To.toNat]? = some (el a (el dues k).To.toNat):=atE a _ (by omega)
    have w1:IntKind.wrap .i64 (el a (el dues k).To.toNat + el x k) = el a (el dues k).To.toNat + el x k:=wrap_id (by rw [h2 _ hT]; omega) (by rw [h2 _ hT]; omega)
    have cF:0 ≤ (el dues k).From ∧ (el dues k).From.toNat < (a.set (el dues k).To.toNat (el a (el dues k).To.toNat + el x k)).length:=⟨f1,by rw [List.length_set]; omega⟩
    have eF:(a.set (el dues k).To.toNat (el a (el dues k).To.toNat + el x k))[(el dues k).From.toNat]? = some (el a (el dues k).From.toNat):=by
     rw [atE _ _ (by rw [List.length_set]; omega),el_set_any,if_neg fun q=>hnf q.1]
    have w2:IntKind.wrap .i64 (el a (el dues k).From.toNat - el x k) = el a (el dues k).From.toNat - el x k:=wrap_id (by rw [h2 _ hF]; omega) (by rw [h2 _ hF]; omega)
    simp only [if_pos c0,eD,eX,Option.bind_some,if_neg d1,if_neg d2,if_pos cT,eT,w1,if_pos cF,eF,w2,w3]
   ·rw [netF_succ,el_set_any,List.length_set]
    unfold ttD frD
    have h2v:=h2 v hv
    unfold ttD frD at h2v
    by_cases e1:v = (el dues k).From.toNat
    ·have e2:¬ (el dues k).To.toNat = v:=by omega
     rw [if_pos ⟨e1,by omega⟩,if_neg e2,if_pos e1.symm,← e1,h2v]; omega
    ·have e1' : ¬ (el dues k).From.toNat = v:=fun q=>e1 q.symm
     have e1'' : ¬ (v = (el dues k).From.toNat ∧ (el dues k).From.toNat < a.length):=fun q=>e1 q.1
     rw [if_neg e1'',if_neg e1',el_set_any]
     by_cases e2:v = (el dues k).To.toNat
     ·rw [if_pos ⟨e2,by omega⟩,if_pos e2.symm,← e2,h2v]; omega
     ·rw [if_neg (fun q=>e2 q.1),if_neg (fun q=>e2 q.symm),h2v]; omega
   ·by_cases e:i = k
    ·subst e; exact hx
    ·exact hI i (by omega)
  ·refine .inr ⟨.inr (),?_,.inr ⟨rfl,fun q=>hx (q k hk)⟩⟩
   show mclearing_Proves_l1_s n dues x q k a = _
   unfold mclearing_Proves_l1_s
   rw [if_pos c0,eD,Option.bind_some,eX,Option.bind_some]
   by_cases d1:el x k < 0
   ·rw [if_pos (decide_eq_true d1)]
   ·have d2:decide (el x k > (el dues k).Sum) = true:=by unfold smD at hx; simp; omega
    rw [if_neg (by simpa using d1),Option.bind_some,if_pos d2]
 ·rintro a ⟨⟨h1,h2⟩,hI⟩
  refine ⟨.inl a,?_,.inl ⟨?_,hI⟩⟩
  ·show mclearing_Proves_l1_s n dues x q dues.length a = _
   unfold mclearing_Proves_l1_s
   rw [if_neg (by simp)]
  ·rw [show a = netL n dues (el x) from ext_elC (by rw [h1,netL_len]) fun v hv=>by rw [h1] at hv; rw [h2 v hv,netL_el _ hv]]
theorem proves_ok (h:OkD n dues):∃ b,mclearing_Proves n dues x q = some b ∧ (b = true ↔ ProvX n dues x q):=by
 have hR:=right_m n dues
 have hr1:rightD n dues = true:=rightD_iff.2 ⟨n,rfl,h⟩
 rw [hr1] at hR
 have hnn:=h.nn
 have hlen:=h.len
 unfold mclearing_Proves
 rw [hR,Option.bind_some,if_neg (by decide)]
 by_cases hl:x.length = dues.length
 ·have c1:¬ ((x.length:Int) != (dues.length:Int)) = true:=by simp [hl]
  rw [if_neg c1]
  by_cases hq:q.length = n
  ·have c2:¬ ((q.length:Int) != (n:Int)) = true:=by simp [hq]
   rw [if_neg c2,if_pos (by omega),Int.toNat_natCast]
   obtain ⟨z,h1,h2⟩:=pnet_m h hl q
   rw [h1,Option.bind_some]
   rcases h2 with ⟨rfl,hr⟩ | ⟨rfl,h2⟩
   ·rw [Sum.elim_inl]
    have k2:mclearing_Proves_l2 n dues x q (netL n dues (el x)) 0 = some (if allN (fun v=>decide (netF (frD dues) (ttD dues) dues.length (el x) v = 0 ∧ (-40 ≤ el q v ∧ el q v ≤ 40))) n = true then .inl () else .inr ()):=by
     unfold mclearing_Proves_l2
     refine iter_all? (step:=fun w=>mclearing_Proves_l2_s n dues x q (netL n dues (el x)) w) (fun i:Nat=>(i:Int)) n (fun v=>decide (netF (frD dues) (ttD dues) dues.length (el x) v = 0 ∧ (-40 ≤ el q v ∧ el q v ≤ 40))) () ?_ ?_
     ·intro v hv
      show mclearing_Proves_l2_s n dues x q (netL n dues (el x)) v = _
      unfold mclearing_Proves_l2_s
      have c0:decide ((v:Int) < (n:Int)) = true:=by simpa using hv
      have ck:0 ≤ (v:Int) ∧ (v:Int).toNat < (netL n dues (el x)).length:=⟨by omega,by rw [Int.toNat_natCast,netL_len]; omega⟩
      have ek:(netL n dues (el x))[(v:Int).toNat]? = some (netF (frD dues) (ttD dues) dues.length (el x) v):=by rw [Int.toNat_natCast,atE _ v (by rw [netL_len]; exact hv),netL_el _ hv]
      have w3:IntKind.wrap .i64 ((v:Int) + 1) = ((v + 1:Nat):Int):=wrap_succ (by omega)
      simp only [if_pos c0,if_pos ck,ek,Option.bind_some,atI_el q v (by omega),w3]
      by_cases a1:netF (frD dues) (ttD dues) dues.length (el x) v = 0
      ·have a1' : ¬ (netF (frD dues) (ttD dues) dues.length (el x) v != 0) = true:=by simpa using a1
       rw [if_neg a1']
       by_cases a2:el q v < -40
       ·rw [if_pos (decide_eq_true a2),decide_eq_false (fun z=>by omega)]; rfl
       ·have a2' : ¬ decide (el q v < (-40)) = true:=by simpa using a2
        rw [if_neg a2']
        by_cases a3:el q v > 40
        ·rw [if_pos (decide_eq_true a3),decide_eq_false (fun z=>by omega)]; rfl
        ·have a3' : ¬ decide (el q v > 40) = true:=by simpa using a3
         rw [if_neg a3',decide_eq_true (show _ ∧ _ from ⟨a1,by omega,by omega⟩)]; rfl
      ·have a1' : (netF (frD dues) (ttD dues) dues.length (el x) v != 0) = true:=by simpa using a1
       rw [if_pos a1',decide_eq_false (fun z=>a1 z.1)]; rfl
     ·show mclearing_Proves_l2_s n dues x q (netL n dues (el x)) n = _
      unfold mclearing_Proves_l2_s
      rw [if_neg (by simp)]
    rw [k2,Option.bind_some]
    by_cases ha:allN (fun v=>decide (netF (frD dues) (ttD dues) dues.length (el x) v = 0 ∧ (-40 ≤ el q v ∧ el q v ≤ 40))) n = true
    ·rw [if_pos ha,Sum.elim_inl,steps_m h hl hr,Option.bind_some]
     have ha':=fun v hv=>of_decide_eq_true (allN_iff.1 ha v hv)
     have S:=steps_of h (el x)
     have hok:=steps_ok h (el x)
     have hll:=stepsG_len dues (el x) dues.length
     have hcp:=cert_pot S (el q)
     generalize stepsG dues (el x) dues.length = l at *
     have k3:mclearing_Proves_l3 q l 0 = some (if allN (fun k=>decide (el q (el l k).to.toNat ≤ el q (el l k).from_.toNat + (el l k).cost)) l.length = true then .inl () else .inr ()):=by
      unfold mclearing_Proves_l3
      refine iter_all? (step:=fun w=>mclearing_Proves_l3_s q l w) (fun i:Nat=>(i:Int)) l.length (fun k=>decide (el q (el l k).to.toNat ≤ el q (el l k).from_.toNat + (el l k).cost)) () ?_ ?_
      ·intro k hk
       obtain ⟨⟨g1,g2⟩,⟨g3,g4⟩,g5,g6⟩:=hok _ (el_mem _ _ hk)
       show mclearing_Proves_l3_s q l k = _
       unfold mclearing_Proves_l3_s
       have c0:decide ((k:Int) < (l.length:Int)) = true:=by simpa using hk
       have ck:0 ≤ (k:Int) ∧ (k:Int).toNat < l.length:=⟨by omega,by rw [Int.toNat_natCast]; omega⟩
       have ek:l[(k:Int).toNat]? = some (el l k):=by rw [Int.toNat_natCast]; exact atE l k hk
       have w3:IntKind.wrap .i64 ((k:Int) + 1) = ((k + 1:Nat):Int):=wrap_succ (by omega)
       have eT:at? q (el l k).to = some (el q (el l k).to.toNat):=by
        have:=atI_el q (el l k).to.toNat (by omega)
        rwa [Int.toNat_of_nonneg g3] at this
       have eF:at? q (el l k).from_ = some (el q (el l k).from_.toNat):=by
        have:=atI_el q (el l k).from_.toNat (by omega)
        rwa [Int.toNat_of_nonneg g1] at this
       have bF:=(ha' (el l k).from_.toNat (by omega)).2
       have wF:IntKind.wrap .i64 (el q (el l k).from_.toNat + (el l k).cost) = el q (el l k).from_.toNat + (el l k).cost:=wrap_id (by omega) (by omega)
       simp only [if_pos c0,if_pos ck,ek,Option.bind_some,eT,eF,wF,w3]
       by_cases a:el q (el l k).to.toNat ≤ el q (el l k).from_.toNat + (el l k).cost
       ·have a' : ¬ decide (el q (el l k).to.toNat > el q (el l k).from_.toNat + (el l k).cost) = true:=by simp; omega
        rw [if_neg a',decide_eq_true a]; rfl
       ·have a' : decide (el q (el l k).to.toNat > el q (el l k).from_.toNat + (el l k).cost) = true:=by simp; omega
        rw [if_pos a',decide_eq_false a]; rfl
      ·show mclearing_Proves_l3_s q l l.length = _
       unfold mclearing_Proves_l3_s
       rw [if_neg (by simp)]
     have hpq:allN (fun k=>decide (el q (el l k).to.toNat ≤ el q (el l k).from_.toNat + (el l k).cost)) l.length = true ↔ Cert (frD dues) (ttD dues) (smD dues) dues.length (el x) (el q):=by
      rw [hcp,allN_iff]
      constructor
      ·intro hh k hk
       rw [List.length_map] at hk
       rw [el_map' stpOf l k hk]
       exact of_decide_eq_true (hh k hk)
      ·intro hh k hk
       have:=hh k (by rw [List.length_map]; exact hk)
       rw [el_map' stpOf l k hk] at this
       exact decide_eq_true this
     rw [k3,Option.bind_some]
     refine ⟨allN (fun k=>decide (el q (el l k).to.toNat ≤ el q (el l k).from_.toNat + (el l k).cost)) l.length,?_,?_⟩
     ·cases allN (fun k=>decide (el q (el l k).to.toNat ≤ el q (el l k).from_.toNat + (el l k).cost)) l.length <;> rfl
     ·rw [hpq]
      exact ⟨fun c=>⟨hl,hq,⟨fun i hi=>(hr i hi).1,fun i hi=>(hr i hi).2,fun v hv=>(ha' v hv).1⟩,fun v hv=>(ha' v hv).2,c⟩,fun P=>P.cert⟩
    ·rw [if_neg ha]
     refine ⟨false,rfl,fun z=>by (cases z),fun P=>absurd (allN_iff.2 fun v hv=>decide_eq_true ⟨P.bald.net v hv,P.rng v hv⟩) ha⟩
   ·exact ⟨false,rfl,fun z=>by (cases z),fun P=>absurd (fun i hi=>⟨P.bald.lo i hi,P.bald.hi i hi⟩) h2⟩
  ·have c2:((q.length:Int) != (n:Int)) = true:=by simp; omega
   rw [if_pos c2]
   exact ⟨false,rfl,fun z=>by (cases z),fun P=>absurd P.lenQ hq⟩
 ·have c1:((x.length:Int) != (dues.length:Int)) = true:=by simp; omega
  rw [if_pos c1]
  exact ⟨false,rfl,fun z=>by (cases z),fun P=>absurd P.len hl⟩
theorem proves_no {n:Int} (h:rightD n dues = false):mclearing_Proves n dues x q = some false:=by
 unfold mclearing_Proves
 rw [right_m,h]; rfl
end
end Go.Proofs.Ytgipgbhlibafhaa
