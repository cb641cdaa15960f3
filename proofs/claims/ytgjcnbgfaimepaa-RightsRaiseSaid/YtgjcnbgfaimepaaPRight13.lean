/- Law 43: RightsRaise, the law. -/
import Derived.Test.YtgjcnbgfaimepaaPRight12
set_option linter.unusedVariables false
set_option linter.unusedSimpArgs false
namespace Go.Proofs.Ytgjcnbgfaimepaa
open Go.RowKit Vm
section
variable {m:Nat} {l:List aE} {asked:List Int}
theorem aJY {n:Int} (h:xH l asked) (hc:(rL n l && wM asked) = false):gB n l asked = some ([],1):=by
 unfold gB
 have:=h.len
 rw [MF _ _ (by omega),Option.bind_some]
 cases h1:rL n l with
 | false=>rfl
 | true =>
  rw [h1] at hc
  simp only [Bool.true_and] at hc
  rw [if_neg (by decide),HJ _ h.asked,hc]
  rfl
theorem KA (h9:l.length <= 9) (hr:∀ i,i < l.length->(el l i).Rights.length <= 12) (hc:rL m l = true) (hk:EM m (l.map gD)) (ha:wM asked = true) (hal:asked.length <= 1000) {z:List Int} (hz:G3 z) (hzr:∀ x ∈ z,0 <= x ∧ x < 200) (hzl:z.length <= 100) :
  ∃ r X q,fD asked z = some r ∧ cQ m l r = some (X,q,0) ∧ dN X = some (AF m l (asked ++ z)):=by
 obtain ⟨ha1,ha2⟩:=CE ha
 obtain ⟨r,e1,e2,e3⟩:=aQQ ha1 hz (by omega) (by omega)
 have hrr:wM r = true:=aAY e2 fun x hx=>by
  rcases (e3 x).1 hx with q | q
  ·exact ha2 x q
  ·exact hzr x q
 have hrl:r.length < 4611686018427387904:=by
  have:r.length <= 200:=by
   -- ascending numbers from 0 to 199
   have key:∀ (k:Nat),k < r.length->(k:Int) <= el r k:=by
    intro k
    induction k with
    | zero=>intro hk'; have:=(CE hrr).2 _ (mF r 0 hk'); omega
    | succ k ih =>
     intro hk'
     have h1:=ih (by omega)
     have h2:=List.pairwise_iff_getElem.1 e2 k (k + 1) (by omega) hk' (by omega)
     rw [← kA _ _ (by omega),← kA _ _ hk'] at h2
     omega
   apply Classical.byContradiction
   intro hn
   have h1:=key 200 (by omega)
   have h2:=(CE hrr).2 _ (mF r 200 (by omega))
   omega
  omega
 have hS:=D6 h9 hr hrl
 obtain ⟨X,q,e4,e5⟩:=TS hS hc hrr
 refine ⟨r,X,q,e1,e4,?_⟩
 have hS2:xH l (asked ++ z):=D6 h9 hr (by rw [List.length_append]; omega)
 exact e5.trans (congrArg some (NG hS hS2 hk fun x=>by rw [e3,List.mem_append]))
theorem XL (hs:gQ = some true) (n:Int) (l:List aE) (asked:List Int) (hl:l.length < 4611686018427387904) (ha:asked.length < 4611686018427387904):gL n l asked = some true:=by
 unfold gL
 obtain ⟨bf,hb,_⟩:=aQA n l hl
 rw [hs,Option.bind_some,hb,Option.bind_some]
 cases bf with
 | false=>rfl
 | true =>
  obtain ⟨h9,hr,h4⟩:=aP5 hl hb
  have hS:=D6 h9 hr ha
  rw [if_neg (by decide)]
  by_cases h20:asked.length > 20
  ·rw [if_pos (by simp; omega)]
  ·rw [if_neg (by simp; omega)]
   cases hc:rL n l && wM asked with
   | false =>
    rw [aJY hS hc,Option.bind_some,aIa hS hc,Option.bind_some]
    rfl
   | true =>
    rw [Bool.and_eq_true] at hc
    obtain ⟨m,_,_,_,rfl,hk,_,_⟩:=YP hS hc.1 hc.2
    obtain ⟨X,q,e1,e2⟩:=TS hS hc.1 hc.2
    obtain ⟨ha1,ha2⟩:=CE hc.2
    generalize hO:oth (uP l) asked = O
    have hOa:G3 O:=by rw [← hO]; exact aAw.sublist List.filter_sublist
    have hOl:O.length <= 4:=by rw [← hO]; exact Nat.le_trans (List.length_filter_le _ _) h4
    have hOm:∀ x ∈ O,x ∈ uP l ∧ x ∉ asked:=fun x hx=>by
     rw [← hO] at hx
     have:=List.mem_filter.1 hx
     exact ⟨this.1,by simpa using this.2⟩
    have hsh:∀ z:List Int,z.length <= 100->xH l (asked ++ z):=fun z hz=>D6 h9 hr (by rw [List.length_append]; omega)
    have hbase:=aIL h9 hr h4 hc.1 hc.2 hk (by omega)
    rw [hO] at hbase
    rw [hbase,Option.bind_some,e1,Option.bind_some,if_neg (by simp),if_neg (by simp)]
    simp only
    rw [e2,Option.bind_some,aAH h9 hr,Option.bind_some]
    generalize hF:zX m l asked O (AF m l asked) O.length = F
    have hgood:∀ d ∈ F,aTU m l asked O d:=fun d hd=>by rw [← hF] at hd; exact aCw hk hsh hOa (by omega) hd
    have hFl:F.length < 100000:=by
     have h1:=(ON (l:=l) (asked:=asked) m (AF m l asked) (ED O O.length) []).1
     have h2:∀ k,k <= O.length->(ED O k).length <= k * 256:=by
      intro k
      induction k with
      | zero=>intro _; simp [ED]
      | succ k ih =>
       intro hk'
       have:=ih (by omega)
       have h3:(lv O.length (k + 1)).length <= 256:=by
        refine Nat.le_trans (aBX _) ?_
        have h1:O.length ^ (k + 1) <= 4 ^ (k + 1):=Nat.pow_le_pow_left hOl _
        have h2:4 ^ (k + 1) <= 4 ^ 4:=Nat.pow_le_pow_right (by omega) (by omega)
        omega
       rw [I1,List.length_append,List.length_map]
       omega
     have h3:=h2 O.length (Nat.le_refl _)
     rw [← hF]
     unfold zX
     simp at h1
     omega
    have hrng:∀ d ∈ F,∀ x ∈ d,0 <= x ∧ x < 200:=fun d hd x hx=>YD hc.1 (hOm x ((hgood d hd).sub x hx)).1
    have key:=uE? (step:=fun w=>bN m l asked true (F,0) (AF m l asked) (uP l) w) (fun i:Nat=>(i:Int)) F.length (fun _=>true) () ?_ ?_
    ·change hU m l asked true (F,0) (AF m l asked) (uP l) 0 = _ at key
     rw [key,i7.2 fun _ _=>rfl,if_pos rfl,Option.bind_some,Sum.elim_inl]
     obtain ⟨r,X',q',j1,j2,j3⟩:=KA h9 hr hc.1 hk hc.2 (by omega) aAw (fun x hx=>YD hc.1 hx) (by omega)
     rw [j1,Option.bind_some,j2,Option.bind_some,if_pos trivial,if_pos (by simp)]
     simp only
     rw [j3,Option.bind_some]
     have hiff:AF m l (asked ++ uP l) > AF m l asked ↔ 0 < F.length:=by
      constructor
      ·intro hgt
       have hOn:0 < O.length:=by
        apply Classical.byContradiction
        intro hn
        have h0:O = []:=List.eq_nil_of_length_eq_zero (by omega)
        have:AF m l (asked ++ uP l) = AF m l asked:=NG (hsh _ (by omega)) hS hk fun x=>by
         rw [List.mem_append]
         constructor
         ·rintro (h | h)
          ·exact h
          ·apply Classical.byContradiction
           intro hx
           have:x ∈ oth (uP l) asked:=List.mem_filter.2 ⟨h,by simpa using hx⟩
           rw [hO,h0] at this
           cases this
         ·exact .inl
        omega
       have hfi:=ZD (m:=m) (l:=l) (asked:=asked) (base:=AF m l asked) O O.length
       have hfull:O ∈ ED O O.length:=by
        refine H5.2 ⟨(List.range O.length).map fun (i:Nat)=>(i:Int),⟨?_,?_⟩,by simp; omega,by simp,?_⟩
        ·unfold G3
         rw [List.pairwise_map]
         exact List.pairwise_lt_range.imp fun q=>by omega
        ·intro e he
         obtain ⟨i,hi,rfl⟩:=List.mem_map.1 he
         have:=List.mem_range.1 hi
         omega
        ·unfold jC
         rw [List.map_map]
         refine List.ext_getElem? fun i=>?_
         rw [List.getElem?_map]
         by_cases hi:i < O.length
         ·rw [List.getElem?_range hi,List.getElem?_eq_getElem hi]
          simp only [Option.map_some,Function.comp,Int.toNat_natCast]
          rw [kA _ _ hi]
         ·rw [List.getElem?_eq_none (by simp; omega),List.getElem?_eq_none (by omega)]; rfl
       rw [hF] at hfi
       rcases hfi.all O hfull with ⟨d,hd,_⟩ | hno
       ·exact List.length_pos_of_mem hd
       ·exfalso
        apply hno
        have:AF m l (asked ++ O) = AF m l (asked ++ uP l):=NG (hsh _ (by omega)) (hsh _ (by omega)) hk fun x=>by
         rw [List.mem_append,List.mem_append]
         constructor
         ·rintro (h | h)
          ·exact .inl h
          ·exact .inr (hOm x h).1
         ·rintro (h | h)
          ·exact .inl h
          ·by_cases hx:x ∈ asked
           ·exact .inl hx
           ·right
            rw [← hO]
            exact List.mem_filter.2 ⟨h,by simpa using hx⟩
        omega
      ·intro hp
       have hd:=mF F 0 hp
       have hg:=hgood _ hd
       have h1:=hg.more
       have hlen:=hg.len
       have h2:=MD (m:=m) (hsh (el F 0) (by omega)) (hsh (uP l) (by omega)) hk fun x hx=>by
        rcases List.mem_append.1 hx with q | q
        ·simp [q]
        ·have:=(hOm x (hg.sub x q)).1
         simp [this]
       omega
     by_cases c:AF m l (asked ++ uP l) > AF m l asked
     ·have:=hiff.1 c
      rw [decide_eq_true c,decide_eq_true (show ((F.length:Nat):Int) > 0 by omega)]
      rfl
     ·have:¬ 0 < F.length:=fun q=>c (hiff.2 q)
      rw [decide_eq_false c,decide_eq_false (show ¬ ((F.length:Nat):Int) > 0 by omega)]
      rfl
    ·intro i hi
     show bN m l asked true (F,0) (AF m l asked) (uP l) i = _
     unfold bN
     have w3:IntKind.wrap .i64 ((i:Int) + 1) = ((i + 1:Nat):Int):=bC (by omega)
     have hd:=mF F i hi
     have hg:=hgood _ hd
     have hlen:=hg.len
     have hpos:=hg.pos
     have hdr:=hrng _ hd
     simp only
     rw [if_pos (by simpa using hi),bU F i hi,Option.bind_some,w3]
     generalize el F i = d at hg hlen hpos hdr ⊢
     obtain ⟨r,X',q',j1,j2,j3⟩:=KA h9 hr hc.1 hk hc.2 (by omega) hg.asc hdr (by omega)
     rw [j1,Option.bind_some,j2,Option.bind_some,if_neg (show ¬ (((d.length:Nat):Int) == 0) = true by rw [beq_iff_eq]; omega),if_neg (by simp)]
     simp only
     rw [j3,Option.bind_some,if_neg (by have:=hg.more; simp; omega)]
     have k1:=uE? (step:=fun w=>bO m l asked i true (F,0) (AF m l asked) (uP l) d w) (fun j:Nat=>(j:Int)) d.length (fun _=>true) () ?_ ?_
     ·change hJ m l asked i true (F,0) (AF m l asked) (uP l) d 0 = _ at k1
      rw [k1,i7.2 fun _ _=>rfl,if_pos rfl,Option.bind_some,Sum.elim_inl]
      rfl
     ·intro j hj
      show bO m l asked i true (F,0) (AF m l asked) (uP l) d j = _
      unfold bO
      have w4:IntKind.wrap .i64 ((j:Int) + 1) = ((j + 1:Nat):Int):=bC (by omega)
      have s1:iR d 0 (j:Int) = d.take j:=by simp [iR]
      have s2:iR d ((j + 1:Nat):Int) (d.length:Int) = d.drop (j + 1):=by
       unfold iR
       rw [Int.toNat_natCast,Int.toNat_natCast,List.take_length]
      have hsub:=PB (S:=d) j
      obtain ⟨r2,X2,q2,i1,i2,i3⟩:=KA h9 hr hc.1 hk hc.2 (by omega) (hg.asc.sublist hsub) (fun x hx=>hdr x (hsub.subset hx)) (Nat.le_trans hsub.length_le (by omega))
      have hdm:=mF d j hj
      have hOx:=hOm _ (hg.sub _ hdm)
      rw [if_pos (by simpa using hj),w4,if_pos ⟨by omega,by omega,by simp; omega⟩,s1,if_pos (by simp; omega),if_pos ⟨by omega,by omega,by simp⟩,s2,if_pos (by simp; omega),List.nil_append,i1,Option.bind_some,i2,Option.bind_some,if_neg (by simp)]
      simp only
      rw [i3,Option.bind_some,hg.less j hj,if_neg (by simp),bU d j hj,Option.bind_some,aDn _ _ (by omega),Option.bind_some,if_neg (by simp; exact hOx.1),Option.bind_some,aDn _ _ (by omega),Option.bind_some,if_neg (by simp; exact hOx.2)]
      rfl
     ·show bO m l asked i true (F,0) (AF m l asked) (uP l) d d.length = _
      unfold bO
      rw [if_neg (by simp)]
    ·show bN m l asked true (F,0) (AF m l asked) (uP l) F.length = _
     unfold bN
     rw [if_neg (by simp)]
end
end Go.Proofs.Ytgjcnbgfaimepaa
