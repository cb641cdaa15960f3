/- Clearing: what Clear returns. -/
import Derived.Test.YtgipgbhlibafhaaPClear9
set_option linter.unusedVariables false
set_option linter.unusedSimpArgs false
namespace Go.Proofs.Ytgipgbhlibafhaa
open Go.RowKit Vm
section
variable {n:Nat} {dues:List GDue} {p:List Int}
theorem raise_step (h:OkD n dues) (hp:p.length = n) (hpb:∀ v,v < n→-1000 ≤ el p v ∧ el p v ≤ 1000) {i:Nat} (hi:i < dues.length) {x:List Int} (hl:x.length = dues.length) (hB:Bald (frD dues) (ttD dues) (smD dues) n dues.length (el x)) (hc:Cert (frD dues) (ttD dues) (smD dues) dues.length (el x) (el p)) (hpi:el p (ttD dues i) = el p (frD dues i) - 1) :
  (∃ x',mclearing_raise_l5_s n dues p i x = some (.inl x') ∧ x'.length = dues.length ∧ Bald (frD dues) (ttD dues) (smD dues) n dues.length (el x') ∧ Cert (frD dues) (ttD dues) (smD dues) dues.length (el x') (el p) ∧ (∀ j,j < i→el x' j = el x j) ∧ (el (dues.map (·.Sum)) i - el x' i).toNat < (el (dues.map (·.Sum)) i - el x i).toNat) ∨
  ((mclearing_raise_l5_s n dues p i x = some (.inr (.inl x)) ∨ mclearing_raise_l5_s n dues p i x = some (.inr (.inr x))) ∧ LexAt (frD dues) (ttD dues) (smD dues) n dues.length (el x) i):=by
 have hr:InR (smD dues) dues.length (el x):=fun j hj=>⟨hB.lo j hj,hB.hi j hj⟩
 have hst:=steps_m h hl hr
 have hok:=steps_ok h (el x)
 have hll:=stepsG_len dues (el x) dues.length
 have hlen:=h.len
 have hnn:=h.nn
 have hdi:=h.each i hi
 have hxi:=hr i hi
 have S:=tight_of h (el x) p i
 have hdue:=due_in h (el x)
 have c4:0 ≤ (i:Int) ∧ (i:Int).toNat < x.length:=⟨by omega,by rw [Int.toNat_natCast]; omega⟩
 have e4:x[(i:Int).toNat]? = some (el x i):=by rw [Int.toNat_natCast]; exact atE x i (by omega)
 have eD:=atI_el dues i hi
 by_cases hfull:el x i < smD dues i
 ·have hfull' : decide (el x i < (el dues i).Sum) = true:=by simpa [smD] using hfull
  have hti:=tight_m (dues:=dues) hok (by omega) hp hpb i x
  have hl1:∀ g ∈ ((stepsG dues (el x) dues.length).filter (tgtB p i)).map zcG,OkSt n g:=by
   intro g hg
   obtain ⟨g',hg',rfl⟩:=List.mem_map.1 hg
   have:=hok g' (List.mem_filter.1 hg').1
   exact ⟨this.1,this.2.1,by simp [zcG]⟩
  have hl2:∀ g ∈ ((stepsG dues (el x) dues.length).filter (tgtB p i)).map zcG,0 ≤ g.due ∧ g.due < (dues.length:Nat):=by
   intro g hg
   obtain ⟨g',hg',rfl⟩:=List.mem_map.1 hg
   exact hdue g' (List.mem_filter.1 hg').1
  have hfl:((stepsG dues (el x) dues.length).filter (tgtB p i)).length ≤ 200:=Nat.le_trans (List.length_filter_le _ _) (by omega)
  have hz:=zero_m (n:=n) (dues:=dues) (p:=p) (l:=(stepsG dues (el x) dues.length).filter (tgtB p i)) (by omega) i x (el dues i)
  have hl3:(((stepsG dues (el x) dues.length).filter (tgtB p i)).map zcG).length ≤ 200:=by rw [List.length_map]; exact hfl
  generalize (stepsG dues (el x) dues.length).filter (tgtB p i) = l0 at *
  generalize l0.map zcG = l at *
  have hpot:Pot Stp.src Stp.dst Stp.cost (l.map stpOf) fun _=>0:=by
   intro k hk
   obtain ⟨j,b,_,_,_,e⟩:=S.sound k hk
   rw [e]
   show (0:Int) ≤ 0 + 0
   omega
  have htoo:((List.replicate n (0:Int)).set (el dues i).To.toNat 1).length = n:=by rw [List.length_set,List.length_replicate]
  obtain ⟨best,last,q1,q2,q3,T⟩:=cheap_m (n:=n) (by omega) hl1 (by omega) htoo hpot
  have hroot:∀ v,v < n→(decide (el ((List.replicate n (0:Int)).set (el dues i).To.toNat 1) v > 0) = true ↔ v = ttD dues i):=by
   intro v hv
   rw [decide_eq_true_eq,el_set_any,List.length_replicate,el_replicate_any _ _ _ hv]
   unfold ttD
   by_cases e:v = (el dues i).To.toNat
   ·rw [if_pos ⟨e,by omega⟩]; simp [e]
   ·rw [if_neg fun q=>e q.1]; simp [e]
  have cT:0 ≤ (el dues i).To ∧ (el dues i).To.toNat < (List.replicate n (0:Int)).length:=⟨by omega,by rw [List.length_replicate]; omega⟩
  have eT:(List.replicate n (0:Int))[(el dues i).To.toNat]? = some 0:=by rw [atE _ _ (by rw [List.length_replicate]; omega),el_replicate_any _ _ _ (by omega)]
  have cF:0 ≤ (el dues i).From ∧ (el dues i).From.toNat < (best.map gLab).length:=⟨by omega,by rw [List.length_map]; omega⟩
  have eF:(best.map gLab)[(el dues i).From.toNat]? = some (gLab (el best (frD dues i))):=by rw [List.getElem?_map,atE best _ (by omega)]; rfl
  have c0:0 ≤ (n:Int) ∧ (n:Int) ≤ (n:Int) ∧ 8 * (n:Int) ≤ 281474976710656 ∧ (n:Int) ≤ 9223372036854775807:=by omega
  have hgf:(gLab (el best (frD dues i))).fine = (el best (frD dues i)).fine:=rfl
  by_cases hf:(el best (frD dues i)).fine = true
  ·obtain ⟨ks,u,w,hu,hRu,hFu,hk⟩:=T.path _ (frD dues i) (Nat.lt_succ_self _) (h.fr i hi) hf
   obtain rfl:=(hroot u hu).1 hRu
   have hkl:∀ k ∈ ks,k < l.length:=fun k hks=>by have:=(hk k hks).1; rwa [List.length_map] at this
   have hk' : ∀ k ∈ ks,k < (l.map stpOf).length ∧ (fun v=>(el best v).k.toNat) (el (l.map stpOf) k).src < (fun v=>(el best v).k.toNat) (el (l.map stpOf) k).dst:=fun k hks=>⟨(hk k hks).1,(hk k hks).2.2.2.1⟩
   obtain ⟨_,hnd⟩:=w.dues S (μ:=fun v=>(el best v).k.toNat) hk'
   have hksl:ks.length ≤ 100:=by
    have:=nodF_le dues.length _ hnd (fun z hz=>by
     obtain ⟨k,hks,rfl⟩:=List.mem_map.1 hz
     rw [el_map' stpOf l k (hkl k hks)]
     have:=hl2 (el l k) (el_mem _ _ (hkl k hks))
     show (el l k).due.toNat < _
     omega)
    rw [List.length_map] at this
    omega
   have hpos:∀ k ∈ ks,0 < (el l k).most:=fun k hks=>by
    obtain ⟨j,b,_,_,hm,e⟩:=S.sound k (hk k hks).1
    rw [← capOf (hkl k hks),e]; exact hm
   unfold smD at hfull hxi
   have hmm:=minM_le l ks ((el dues i).Sum - el x i)
   have hmp:=minM_pos l ks ((el dues i).Sum - el x i) (by omega) hpos
   have w1:=walk_mostR hl1 q3 n dues p i x (best.map gLab) w (h.fr i hi) ((el dues i).Sum - el x i)
   have hfrE:((frD dues i:Nat):Int) = (el dues i).From:=by unfold frD; omega
   rw [hfrE] at w1
   generalize minM l ((el dues i).Sum - el x i) ks = d at *
   have w2:=walk_moveR hl1 q3 (m:=dues.length) hl2 n dues p i (best.map gLab) (d:=d) (D:=1099511627776) (by omega) (by omega) w (h.fr i hi) x 1099511627776 hl (fun j=>by
    by_cases hj:j < dues.length
    ·have:=hr j hj; have:=h.each j hj; unfold smD at *; omega
    ·rw [show el x j = 0 by simp [el,show ¬ j < x.length by omega]]; omega) (by
    have:(ks.length:Int) * 1099511627776 ≤ 100 * 1099511627776:=Int.mul_le_mul_of_nonneg_right (by omega) (by omega)
    omega)
   rw [hfrE] at w2
   obtain ⟨m0,m1,m2,m3,m4,m5⟩:=raise_move hl hi S hB hc hpi (μ:=fun v=>(el best v).k.toNat) w hk' (d:=d) (by omega) (fun k hks=>by rw [capOf (hkl k hks)]; exact hmm.2 k hks) (by unfold smD; omega)
   refine .inl ⟨_,?_,m1,m2,m3,m4,?_⟩
   ·unfold mclearing_raise_l5_s
    have wS:IntKind.wrap .i64 ((el dues i).Sum - el x i) = (el dues i).Sum - el x i:=wrap_id (by omega) (by omega)
    have hml:(mvL (l.map stpOf) d x ks).length = dues.length:=by rw [mvL_len,hl]
    have c5:0 ≤ (i:Int) ∧ (i:Int).toNat < (mvL (l.map stpOf) d x ks).length:=⟨by omega,by rw [Int.toNat_natCast]; omega⟩
    have e5:(mvL (l.map stpOf) d x ks)[(i:Int).toNat]? = some (el (mvL (l.map stpOf) d x ks) i):=by rw [Int.toNat_natCast]; exact atE _ i (by omega)
    have w5:IntKind.wrap .i64 (el (mvL (l.map stpOf) d x ks) i + d) = el (mvL (l.map stpOf) d x ks) i + d:=by rw [m0]; exact wrap_id (by omega) (by omega)
    have cn:¬ (!(el best (frD dues i)).fine) = true:=by rw [hf]; decide
    simp only [if_pos c4,e4,Option.bind_some,eD,if_pos hfull',hst,hti,if_pos c0,Int.toNat_natCast n,if_pos cT,eT,hz,q1,if_pos cF,eF,hgf,if_neg cn,wS,w1,w2,if_pos c5,e5,w5]
    rw [Int.toNat_natCast]
   ·rw [el_map' (·.Sum) dues i hi,m5]
    omega
  ·refine .inr ⟨.inr ?_,?_⟩
   ·unfold mclearing_raise_l5_s
    have cn:(!(el best (frD dues i)).fine) = true:=by simpa using hf
    simp only [if_pos c4,e4,Option.bind_some,eD,if_pos hfull',hst,hti,if_pos c0,Int.toNat_natCast n,if_pos cT,eT,hz,q1,if_pos cF,eF,hgf,if_pos cn]
   ·refine raise_end hi h.fr h.tt hB hc S (F:=fun v=>(el best v).fine) (fun k hk hF=>(T.closed k hk hF).1) (T.root _ (h.tt i hi) ((hroot _ (h.tt i hi)).2 rfl)) (by simpa using hf)
 ·refine .inr ⟨.inl ?_,raise_full hi (by omega)⟩
  unfold mclearing_raise_l5_s
  have hfull' : ¬ decide (el x i < (el dues i).Sum) = true:=by simpa [smD] using hfull
  rw [if_pos c4,e4,Option.bind_some,eD,Option.bind_some,if_neg hfull']
theorem raise_m (h:OkD n dues) (hp:p.length = n) (hpb:∀ v,v < n→-1000 ≤ el p v ∧ el p v ≤ 1000) {i:Nat} (hi:i < dues.length) {x:List Int} (hl:x.length = dues.length) (hB:Bald (frD dues) (ttD dues) (smD dues) n dues.length (el x)) (hc:Cert (frD dues) (ttD dues) (smD dues) dues.length (el x) (el p)) :
  ∃ x',mclearing_raise n dues x p i = some x' ∧ x'.length = dues.length ∧ Bald (frD dues) (ttD dues) (smD dues) n dues.length (el x') ∧ Cert (frD dues) (ttD dues) (smD dues) dues.length (el x') (el p) ∧ (∀ j,j < i→el x' j = el x j) ∧ LexAt (frD dues) (ttD dues) (smD dues) n dues.length (el x') i:=by
 have hdi:=h.each i hi
 have hnn:=h.nn
 have eD:=atI_el dues i hi
 have eT:at? p (el dues i).To = some (el p (ttD dues i)):=by
  have:=atI_el p (el dues i).To.toNat (by omega)
  rwa [Int.toNat_of_nonneg hdi.2.1.1] at this
 have eF:at? p (el dues i).From = some (el p (frD dues i)):=by
  have:=atI_el p (el dues i).From.toNat (by omega)
  rwa [Int.toNat_of_nonneg hdi.1.1] at this
 have bF:=hpb _ (h.fr i hi)
 unfold mclearing_raise
 rw [eD,Option.bind_some,eT,Option.bind_some,Option.bind_some,eF,Option.bind_some,wrap_id (by omega) (by omega)]
 by_cases hpi:el p (ttD dues i) = el p (frD dues i) - 1
 ·have cn:¬ (el p (ttD dues i) != el p (frD dues i) - 1) = true:=by simpa using hpi
  rw [if_neg cn]
  unfold mclearing_raise_l5
  obtain ⟨z,h1,h2⟩:=iter_meas (step:=fun (w:List Int)=>mclearing_raise_l5_s n dues p i w) (fun w=>w.length = dues.length ∧ Bald (frD dues) (ttD dues) (smD dues) n dues.length (el w) ∧ Cert (frD dues) (ttD dues) (smD dues) dues.length (el w) (el p) ∧ ∀ j,j < i→el w j = el x j) (fun w=>(el (dues.map (·.Sum)) i - el w i).toNat)
   (fun z=>∃ x' : List Int,(z = .inl x' ∨ z = .inr x') ∧ x'.length = dues.length ∧ Bald (frD dues) (ttD dues) (smD dues) n dues.length (el x') ∧ Cert (frD dues) (ttD dues) (smD dues) dues.length (el x') (el p) ∧ (∀ j,j < i→el x' j = el x j) ∧ LexAt (frD dues) (ttD dues) (smD dues) n dues.length (el x') i) (fun w ⟨i1,i2,i3,i4⟩=>by
    rcases raise_step h hp hpb hi i1 i2 i3 hpi with ⟨x',s1,s2,s3,s4,s5,s6⟩ | ⟨s1 | s1,s2⟩
    ·exact .inl ⟨x',s1,⟨s2,s3,s4,fun j hj=>by rw [s5 j hj,i4 j hj]⟩,s6⟩
    ·exact .inr ⟨_,s1,w,.inl rfl,i1,i2,i3,i4,s2⟩
    ·exact .inr ⟨_,s1,w,.inr rfl,i1,i2,i3,i4,s2⟩) x ⟨hl,hB,hc,fun _ _=>rfl⟩
  obtain ⟨x',h3,h4⟩:=h2
  refine ⟨x',?_,h4⟩
  rw [h1,Option.bind_some]
  rcases h3 with rfl | rfl <;> rfl
 ·have cn:(el p (ttD dues i) != el p (frD dues i) - 1) = true:=by simpa using hpi
  rw [if_pos cn]
  exact ⟨x,rfl,hl,hB,hc,fun _ _=>rfl,raise_slack hi h.fr h.tt hB hc hpi⟩
structure BestX (n:Nat) (dues:List GDue) (x q:List Int):Prop where
 len:x.length = dues.length
 lenQ:q.length = n
 bald:Bald (frD dues) (ttD dues) (smD dues) n dues.length (el x)
 cert:Cert (frD dues) (ttD dues) (smD dues) dues.length (el x) (el q)
 lex:∀ i,i < dues.length→LexAt (frD dues) (ttD dues) (smD dues) n dues.length (el x) i
 least:LeastX n ((stepsG dues (el x) dues.length).map stpOf) (el q)
theorem BestX.one {x q x' q' : List Int} (h:OkD n dues) (a:BestX n dues x q) (b:BestX n dues x' q'):x = x' ∧ q = q':=by
 have hs:sumN (el x) dues.length = sumN (el x') dues.length:=by
  have h1:=cert_best h.fr h.tt a.bald b.bald a.cert
  have h2:=cert_best h.fr h.tt b.bald a.bald b.cert
  omega
 have e:=lex_one a.bald b.bald hs a.lex b.lex
 have e1:x = x':=ext_elC (by rw [a.len,b.len]) fun i hi=>e i (by rw [← a.len]; exact hi)
 subst e1
 refine ⟨rfl,ext_elC (by rw [a.lenQ,b.lenQ]) fun v hv=>a.least.one b.least (by rw [← a.lenQ]; exact hv)⟩
theorem full_m (h:OkD n dues):mclearing_Clear_l1 n dues 0 (List.replicate dues.length (0:Int)) = some (dues.map (·.Sum)):=by
 unfold mclearing_Clear_l1
 have hlen:=h.len
 suffices hh:∃ y,Iter (fun (w:Int × List Int)=>mclearing_Clear_l1_s n dues w.1 w.2) (0,List.replicate dues.length (0:Int)) = some y ∧ y = dues.map (·.Sum) by
  obtain ⟨y,h1,h2⟩:=hh
  rw [h2] at h1; exact h1
 refine iter_for (step:=fun (w:Int × List Int)=>mclearing_Clear_l1_s n dues w.1 w.2) (fun k (a:List Int)=>((k:Int),a)) dues.length (fun k a=>a.length = dues.length ∧ ∀ j,j < k→el a j = (el dues j).Sum) _ ?_ ?_ _ ⟨List.length_replicate,fun j hj=>absurd hj (Nat.not_lt_zero _)⟩
 ·rintro k a hk ⟨h1,h2⟩
  refine .inl ⟨a.set k (el dues k).Sum,?_,by simp [h1],fun j hj=>?_⟩
  ·show mclearing_Clear_l1_s n dues k a = _
   unfold mclearing_Clear_l1_s
   have c0:decide ((k:Int) < (dues.length:Int)) = true:=by simpa using hk
   have ck:0 ≤ (k:Int) ∧ (k:Int).toNat < a.length:=⟨by omega,by rw [Int.toNat_natCast]; omega⟩
   have ek:a[(k:Int).toNat]? = some (el a k):=by rw [Int.toNat_natCast]; exact atE a k (by omega)
   have w3:IntKind.wrap .i64 ((k:Int) + 1) = ((k + 1:Nat):Int):=wrap_succ (by omega)
   simp only [if_pos c0,atI_el dues k hk,Option.bind_some,if_pos ck,ek,w3]
   rw [Int.toNat_natCast]
  ·rw [el_set_any]
   by_cases e:j = k
   ·subst e; rw [if_pos ⟨rfl,by omega⟩]
   ·rw [if_neg fun q=>e q.1]; exact h2 j (by omega)
 ·rintro a ⟨h1,h2⟩
  refine ⟨a,?_,?_⟩
  ·show mclearing_Clear_l1_s n dues dues.length a = _
   unfold mclearing_Clear_l1_s
   rw [if_neg (by simp)]
  ·refine ext_elC (by rw [h1,List.length_map]) fun j hj=>?_
   rw [h1] at hj
   rw [h2 j hj,el_map' (·.Sum) dues j hj]
theorem LeastX.cert (h:OkD n dues) {x:List Int} {q:Nat→Int} (hq:LeastX n ((stepsG dues (el x) dues.length).map stpOf) q):Cert (frD dues) (ttD dues) (smD dues) dues.length (el x) q :=
 (cert_pot (steps_of h (el x)) q).2 hq.pot
theorem best_m (h:OkD n dues) (hR:mclearing_Right n dues = some true):∃ x q,mclearing_Clear n dues = some (x,q,0) ∧ BestX n dues x q:=by
 have hlen:=h.len
 have hnn:=h.nn
 unfold mclearing_Clear
 rw [hR,Option.bind_some,if_neg (by decide),if_pos (by omega),Int.toNat_natCast,full_m h,Option.bind_some]
 obtain ⟨x0,a1,a2,a3,p0,a4⟩:=balance_m h (sums:=dues.map (·.Sum)) (by rw [List.length_map]) fun i hi=>by rw [el_map' (·.Sum) dues i hi]; rfl
 obtain ⟨q0,b1,b2,b3⟩:=pots_m h a2 (fun i hi=>⟨a3.lo i hi,a3.hi i hi⟩) a4
 have b4:=b3.cert h
 have hpb:∀ v,v < n→-1000 ≤ el q0 v ∧ el q0 v ≤ 1000:=fun v hv=>by have:=b3.le0 v hv; have:=b3.lo v hv; omega
 rw [a1,Option.bind_some,b1,Option.bind_some]
 have hl2:∃ x,mclearing_Clear_l2 n dues q0 0 x0 = some x ∧ x.length = dues.length ∧ Bald (frD dues) (ttD dues) (smD dues) n dues.length (el x) ∧ Cert (frD dues) (ttD dues) (smD dues) dues.length (el x) (el q0) ∧ ∀ i,i < dues.length→LexAt (frD dues) (ttD dues) (smD dues) n dues.length (el x) i:=by
  unfold mclearing_Clear_l2
  refine iter_for (step:=fun (w:Int × List Int)=>mclearing_Clear_l2_s n dues q0 w.1 w.2) (fun k (a:List Int)=>((k:Int),a)) dues.length (fun k a=>a.length = dues.length ∧ Bald (frD dues) (ttD dues) (smD dues) n dues.length (el a) ∧ Cert (frD dues) (ttD dues) (smD dues) dues.length (el a) (el q0) ∧ ∀ i,i < k→LexAt (frD dues) (ttD dues) (smD dues) n dues.length (el a) i) _ ?_ ?_ _ ⟨a2,a3,b4,fun j hj=>absurd hj (Nat.not_lt_zero _)⟩
  ·rintro k a hk ⟨i1,i2,i3,i4⟩
   obtain ⟨x',r1,r2,r3,r4,r5,r6⟩:=raise_m h b2 hpb hk i1 i2 i3
   refine .inl ⟨x',?_,r2,r3,r4,fun j hj=>?_⟩
   ·show mclearing_Clear_l2_s n dues q0 k a = _
    unfold mclearing_Clear_l2_s
    have c0:decide ((k:Int) < (dues.length:Int)) = true:=by simpa using hk
    rw [if_pos c0,r1,Option.bind_some,wrap_succ (by omega)]
   ·by_cases e:j = k
    ·subst e; exact r6
    ·exact (i4 j (by omega)).keep (fun j' hj'=>r5 j' (by omega)) (cert_best h.fr h.tt r3 i2 r4)
  ·rintro a hI
   refine ⟨a,?_,hI⟩
   show mclearing_Clear_l2_s n dues q0 dues.length a = _
   unfold mclearing_Clear_l2_s
   rw [if_neg (by simp)]
 obtain ⟨x,d1,d2,d3,d4,d5⟩:=hl2
 obtain ⟨q,f1,f2,f3⟩:=pots_m h d2 (fun i hi=>⟨d3.lo i hi,d3.hi i hi⟩) d4
 rw [d1,Option.bind_some,f1,Option.bind_some]
 exact ⟨x,q,rfl,d2,f2,d3,f3.cert h,d5,f3⟩
end
end Go.Proofs.Ytgipgbhlibafhaa
