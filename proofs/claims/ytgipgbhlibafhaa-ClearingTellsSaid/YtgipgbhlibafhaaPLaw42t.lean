/- Law 42: the program tells what the reference tells (ClearingTells). -/
import Derived.Test.YtgipgbhlibafhaaPRef42f
set_option linter.unusedVariables false
set_option linter.unusedSimpArgs false
namespace Go.Proofs.Ytgipgbhlibafhaa
open Go.RowKit Vm
theorem same_refl42 (l:List Int) (hl:l.length < 9223372036854775807):mallongeref06_SameInts l l = some true:=by
 unfold mallongeref06_SameInts
 have:mallongeref06_SameInts_l1 l l 0 = some (.inl ()):=by
  unfold mallongeref06_SameInts_l1
  refine iter_all (step:=fun w=>mallongeref06_SameInts_l1_s l l w) (fun (i:Nat)=>(i:Int)) l.length _ ?_ ?_
  ·intro i hi
   simp only [mallongeref06_SameInts_l1_s,lt_t hi,if_true,at_el _ _ hi,Option.bind_some,wrap_succ (show i < 9223372036854775807 by omega),bne_self_eq_false,Bool.false_eq_true,if_false]
  ·simp only [mallongeref06_SameInts_l1_s,lt_f,if_false]
 simp only [bne_self_eq_false,Bool.false_eq_true,if_false,this,Option.bind_some,Sum.elim_inl]
section
variable {n:Nat} {dues:List GDue} {x q:List Int}
theorem rproves_ok (h:OkD n dues):∃ b,mallongeref42_Proves n dues x q = some b ∧ (b = true ↔ ProvX n dues x q):=by
 have hnn:=h.nn
 have hlen:=h.len
 unfold mallongeref42_Proves
 rw [rRight_m,rightD_iff.2 ⟨n,rfl,h⟩,Option.bind_some,if_neg (by decide)]
 obtain ⟨b1,e1,i1⟩:=balanced_m h (x:=x)
 rw [e1,Option.bind_some]
 cases b1 with
 | false=>exact ⟨false,rfl,fun z=>by (cases z),fun P=>absurd (i1.2 ⟨P.len,P.bald⟩) (by decide)⟩
 | true =>
  obtain ⟨hl,hB⟩:=i1.1 rfl
  rw [if_neg (by decide)]
  by_cases hq:q.length = n
  ·have c2:¬ ((q.length:Int) != (n:Int)) = true:=by simp [hq]
   rw [if_neg c2]
   have k1:mallongeref42_Proves_l1 n dues x q 0 = some (if allN (fun v=>decide (-40 ≤ el q v ∧ el q v ≤ 40)) n = true then .inl () else .inr ()):=by
    unfold mallongeref42_Proves_l1
    refine iter_all? (step:=fun w=>mallongeref42_Proves_l1_s n dues x q w) (fun i:Nat=>(i:Int)) n (fun v=>decide (-40 ≤ el q v ∧ el q v ≤ 40)) () ?_ ?_
    ·intro v hv
     show mallongeref42_Proves_l1_s n dues x q v = _
     unfold mallongeref42_Proves_l1_s
     have c0:decide ((v:Int) < (n:Int)) = true:=by simpa using hv
     have w3:IntKind.wrap .i64 ((v:Int) + 1) = ((v + 1:Nat):Int):=wrap_succ (by omega)
     simp only [if_pos c0,Option.bind_some,atI_el q v (by omega),w3]
     by_cases a2:el q v < -40
     ·rw [if_pos (decide_eq_true a2),decide_eq_false (fun z=>by omega)]; rfl
     ·have a2' : ¬ decide (el q v < (-40)) = true:=by simpa using a2
      rw [if_neg a2']
      by_cases a3:el q v > 40
      ·rw [if_pos (decide_eq_true a3),decide_eq_false (fun z=>by omega)]; rfl
      ·have a3' : ¬ decide (el q v > 40) = true:=by simpa using a3
       rw [if_neg a3',decide_eq_true (show _ ∧ _ from ⟨by omega,by omega⟩)]; rfl
    ·show mallongeref42_Proves_l1_s n dues x q n = _
     unfold mallongeref42_Proves_l1_s
     rw [if_neg (by simp)]
   rw [k1,Option.bind_some]
   by_cases ha:allN (fun v=>decide (-40 ≤ el q v ∧ el q v ≤ 40)) n = true
   ·rw [if_pos ha,Sum.elim_inl]
    have ha':=fun v hv=>of_decide_eq_true (allN_iff.1 ha v hv)
    have k2:mallongeref42_Proves_l2 dues x q 0 = some (if allN (fun i=>decide ((el x i < smD dues i→el q (ttD dues i) ≤ el q (frD dues i) - 1) ∧ (0 < el x i→el q (frD dues i) ≤ el q (ttD dues i) + 1))) dues.length = true then .inl () else .inr ()):=by
     unfold mallongeref42_Proves_l2
     refine iter_all? (step:=fun w=>mallongeref42_Proves_l2_s dues x q w) (fun i:Nat=>(i:Int)) dues.length (fun i=>decide ((el x i < smD dues i→el q (ttD dues i) ≤ el q (frD dues i) - 1) ∧ (0 < el x i→el q (frD dues i) ≤ el q (ttD dues i) + 1))) () ?_ ?_
     ·intro i hi
      have hd:=h.each i hi
      have hfr:=h.fr i hi
      have htt:=h.tt i hi
      show mallongeref42_Proves_l2_s dues x q i = _
      unfold mallongeref42_Proves_l2_s
      have c0:decide ((i:Int) < (dues.length:Int)) = true:=by simpa using hi
      have w3:IntKind.wrap .i64 ((i:Int) + 1) = ((i + 1:Nat):Int):=wrap_succ (by omega)
      have eT:at? q (el dues i).To = some (el q (ttD dues i)):=by
       have:=atI_el q (el dues i).To.toNat (by unfold ttD at htt; omega)
       rwa [Int.toNat_of_nonneg hd.2.1.1] at this
      have eF:at? q (el dues i).From = some (el q (frD dues i)):=by
       have:=atI_el q (el dues i).From.toNat (by unfold frD at hfr; omega)
       rwa [Int.toNat_of_nonneg hd.1.1] at this
      have eX:at? x (i:Int) = some (el x i):=atI_el x i (by omega)
      have bF:=ha' _ hfr
      have bT:=ha' _ htt
      have w1:IntKind.wrap .i64 (el q (frD dues i) - 1) = el q (frD dues i) - 1:=wrap_id (by omega) (by omega)
      have w2:IntKind.wrap .i64 (el q (ttD dues i) + 1) = el q (ttD dues i) + 1:=wrap_id (by omega) (by omega)
      simp only [if_pos c0,atI_el dues i hi,Option.bind_some,eT,eF,eX,w1,w2,w3]
      by_cases a1:el x i < smD dues i
      ·have a1' : decide (el x i < (el dues i).Sum) = true:=decide_eq_true a1
       rw [if_pos a1']
       by_cases a2:el q (ttD dues i) > el q (frD dues i) - 1
       ·rw [if_pos (decide_eq_true a2),decide_eq_false (fun z=>by have:=z.1 a1; omega)]; rfl
       ·have a2' : ¬ decide (el q (ttD dues i) > el q (frD dues i) - 1) = true:=by rw [decide_eq_true_eq]; exact a2
        rw [if_neg a2']
        by_cases a3:el x i > 0
        ·rw [if_pos (decide_eq_true a3)]
         by_cases a4:el q (frD dues i) > el q (ttD dues i) + 1
         ·rw [if_pos (decide_eq_true a4),decide_eq_false (fun z=>by have:=z.2 a3; omega)]; rfl
         ·have a4' : ¬ decide (el q (frD dues i) > el q (ttD dues i) + 1) = true:=by rw [decide_eq_true_eq]; exact a4
          rw [if_neg a4',decide_eq_true (show _ ∧ _ from ⟨fun _=>by omega,fun _=>by omega⟩)]; rfl
        ·have a3' : ¬ decide (el x i > 0) = true:=by rw [decide_eq_true_eq]; exact a3
         rw [if_neg a3',decide_eq_true (show _ ∧ _ from ⟨fun _=>by omega,fun z=>by omega⟩)]; rfl
      ·have a1' : ¬ decide (el x i < (el dues i).Sum) = true:=by rw [decide_eq_true_eq]; exact a1
       rw [if_neg a1']
       by_cases a3:el x i > 0
       ·rw [if_pos (decide_eq_true a3)]
        by_cases a4:el q (frD dues i) > el q (ttD dues i) + 1
        ·rw [if_pos (decide_eq_true a4),decide_eq_false (fun z=>by have:=z.2 a3; omega)]; rfl
        ·have a4' : ¬ decide (el q (frD dues i) > el q (ttD dues i) + 1) = true:=by rw [decide_eq_true_eq]; exact a4
         rw [if_neg a4',decide_eq_true (show _ ∧ _ from ⟨fun z=>absurd z a1,fun _=>by omega⟩)]; rfl
       ·have a3' : ¬ decide (el x i > 0) = true:=by rw [decide_eq_true_eq]; exact a3
        rw [if_neg a3',decide_eq_true (show _ ∧ _ from ⟨fun z=>absurd z a1,fun z=>by omega⟩)]; rfl
     ·show mallongeref42_Proves_l2_s dues x q dues.length = _
      unfold mallongeref42_Proves_l2_s
      rw [if_neg (by simp)]
    rw [k2,Option.bind_some]
    refine ⟨allN (fun i=>decide ((el x i < smD dues i→el q (ttD dues i) ≤ el q (frD dues i) - 1) ∧ (0 < el x i→el q (frD dues i) ≤ el q (ttD dues i) + 1))) dues.length,?_,?_⟩
    ·cases allN (fun i=>decide ((el x i < smD dues i→el q (ttD dues i) ≤ el q (frD dues i) - 1) ∧ (0 < el x i→el q (frD dues i) ≤ el q (ttD dues i) + 1))) dues.length <;> rfl
    ·rw [allN_iff]
     exact ⟨fun c=>⟨hl,hq,hB,ha',fun i hi=>of_decide_eq_true (c i hi)⟩,fun P i hi=>decide_eq_true (P.cert i hi)⟩
   ·rw [if_neg ha]
    exact ⟨false,rfl,fun z=>by (cases z),fun P=>absurd (allN_iff.2 fun v hv=>decide_eq_true (P.rng v hv)) ha⟩
  ·have c2:((q.length:Int) != (n:Int)) = true:=by simp; omega
   rw [if_pos c2]
   exact ⟨false,rfl,fun z=>by (cases z),fun P=>absurd P.lenQ hq⟩
end
theorem best_no42 {n:Int} {dues:List GDue} (h:rightD n dues = false):mclearing_Clear n dues = some ([],[],1):=by
 unfold mclearing_Clear
 rw [right_m,h]; rfl
theorem rproves_no {n:Int} {dues:List GDue} {x q:List Int} (h:rightD n dues = false):mallongeref42_Proves n dues x q = some false:=by
 unfold mallongeref42_Proves
 rw [rRight_m,h]; rfl
theorem rbest_no {n:Int} {dues:List GDue} (h:rightD n dues = false):mallongeref42_Clear n dues = some ([],[],1):=by
 unfold mallongeref42_Clear
 rw [rRight_m,h]; rfl
theorem few_m (n:Int) (dues:List GDue):∃ b,mallongeref42_Few n dues = some b:=by
 unfold mallongeref42_Few
 have key:∃ z,mallongeref42_Few_l1 n dues 0 = some z ∧ True:=by
  unfold mallongeref42_Few_l1
  refine iter_spec (step:=fun w=>mallongeref42_Few_l1_s n dues w) (fun i:Nat=>(i:Int)) (min dues.length 20) (fun _=>True) (fun _=>True) ?_ ?_
  ·intro i hi
   have c0:decide ((i:Int) < (dues.length:Int)) = true:=by simp; omega
   have c1:decide ((i:Int) < 20) = true:=by simp; omega
   have w3:IntKind.wrap .i64 ((i:Int) + 1) = ((i + 1:Nat):Int):=wrap_succ (by omega)
   have e:mallongeref42_Few_l1_s n dues i = if decide ((el dues i).Sum > 12) = true then (if decide ((el dues i).Sum ≤ 1099511627776) = true then some (.inr (.inr ())) else some (.inl ((i + 1:Nat):Int))) else some (.inl ((i + 1:Nat):Int)):=by
    unfold mallongeref42_Few_l1_s
    simp only [if_pos c0,if_pos c1,atI_el dues i (by omega),Option.bind_some,w3]
   by_cases a1:decide ((el dues i).Sum > 12) = true
   ·by_cases a2:decide ((el dues i).Sum ≤ 1099511627776) = true
    ·refine .inr ⟨.inr (),?_,fun _=>trivial⟩
     show mallongeref42_Few_l1_s n dues i = _
     rw [e,if_pos a1,if_pos a2]
    ·refine .inl ⟨?_,trivial⟩
     show mallongeref42_Few_l1_s n dues i = _
     rw [e,if_pos a1,if_neg a2]
   ·refine .inl ⟨?_,trivial⟩
    show mallongeref42_Few_l1_s n dues i = _
    rw [e,if_neg a1]
  ·refine ⟨.inl (),?_,fun _=>trivial⟩
   show mallongeref42_Few_l1_s n dues ((min dues.length 20:Nat):Int) = _
   unfold mallongeref42_Few_l1_s
   by_cases h2:dues.length ≤ 20
   ·rw [if_neg (by simp; omega)]
   ·have c0:decide (((min dues.length 20:Nat):Int) < (dues.length:Int)) = true:=by simp; omega
    have c1:¬ decide (((min dues.length 20:Nat):Int) < 20) = true:=by simp; omega
    rw [if_pos c0,if_neg c1]
 obtain ⟨z,h1,_⟩:=key
 rw [h1,Option.bind_some]
 cases z with
 | inr u=>exact ⟨false,rfl⟩
 | inl u =>
  rw [Sum.elim_inl]
  split
  ·split
   ·exact ⟨_,rfl⟩
   ·split <;> exact ⟨_,rfl⟩
  ·split
   ·split
    ·exact ⟨_,rfl⟩
    ·split <;> exact ⟨_,rfl⟩
   ·exact ⟨_,rfl⟩
theorem best_both {n:Nat} {dues:List GDue} (h:OkD n dues):∃ x q,mclearing_Clear n dues = some (x,q,0) ∧ mallongeref42_Clear n dues = some (x,q,0) ∧ BestX n dues x q:=by
 have hR:=right_m n dues
 rw [rightD_iff.2 ⟨n,rfl,h⟩] at hR
 obtain ⟨x,q,e,b⟩:=best_m h hR
 obtain ⟨x',q',e',b'⟩:=rbest_m h
 obtain ⟨rfl,rfl⟩:=b.one h b'
 exact ⟨x,q,e,e',b⟩
theorem law42_tells (hs:mallongelaw42_sane = some true) (n:Int) (dues:List GDue) (x p:List Int):mallongelaw42_ClearingTells n dues x p = some true:=by
 unfold mallongelaw42_ClearingTells
 obtain ⟨bf,ef⟩:=few_m n dues
 rw [hs,Option.bind_some,ef,Option.bind_some]
 cases bf with
 | false=>rfl
 | true =>
  rw [if_neg (by decide)]
  by_cases c1:decide ((x.length:Int) > 110) = true
  ·rw [if_pos c1]
  rw [if_neg c1]
  by_cases c2:decide ((p.length:Int) > 50) = true
  ·rw [if_pos c2]
  rw [if_neg c2]
  by_cases hR:rightD n dues = true
  ·obtain ⟨m,rfl,h⟩:=rightD_iff.1 hR
   obtain ⟨y,q,e1,e2,b⟩:=best_both h
   have hyl:=b.len
   have hql:=b.lenQ
   have hlen:=h.len
   have hnn:=h.nn
   obtain ⟨b1,f1,i1⟩:=proves_ok h (x:=x) (q:=p)
   obtain ⟨b2,f2,i2⟩:=rproves_ok h (x:=x) (q:=p)
   have hb:b1 = b2:=by rw [Bool.eq_iff_iff,i1,i2]
   subst hb
   rw [e1,Option.bind_some,e2,Option.bind_some,if_neg (by simp),same_refl42 y (by omega),Option.bind_some,if_neg (by decide),same_refl42 q (by omega),Option.bind_some,if_neg (by decide),right_m,Option.bind_some,rRight_m,Option.bind_some,if_neg (by simp),if_pos rfl,total_m,Option.bind_some,rTotal_m,Option.bind_some,if_pos (by simp),f1,Option.bind_some,f2,Option.bind_some]
   simp
  ·rw [Bool.not_eq_true] at hR
   rw [best_no42 hR,Option.bind_some,rbest_no hR,Option.bind_some,if_neg (by simp),same_refl42 [] (by simp),Option.bind_some,if_neg (by decide),Option.bind_some,if_neg (by decide),right_m,Option.bind_some,rRight_m,Option.bind_some,if_neg (by simp),if_pos rfl,total_m,Option.bind_some,rTotal_m,Option.bind_some,if_pos (by simp),proves_no hR,Option.bind_some,rproves_no hR,Option.bind_some]
   rfl
end Go.Proofs.Ytgipgbhlibafhaa
