/- Clearing: balancing ends balanced, and best. -/
import Derived.Test.YtgipgbhlibafhaaPClear6
set_option linter.unusedVariables false
set_option linter.unusedSimpArgs false
namespace Go.Proofs.Ytgipgbhlibafhaa
open Go.RowKit Vm
section
variable {n:Nat} {dues:List GDue} {sums:List Int}
def posS (n:Nat) (dues:List GDue) (x:Nat→Int):Int:=sumN (fun v=>if 0 < netF (frD dues) (ttD dues) dues.length x v then netF (frD dues) (ttD dues) dues.length x v else 0) n
theorem posS_nonneg (x:Nat→Int):0 ≤ posS n dues x:=sumN_nonneg fun v _=>by split <;> omega
theorem posS_move {x y:Nat→Int} {u v:Nat} {d:Int} (hu:u < n) (hd:0 < d) (h1:d ≤ netF (frD dues) (ttD dues) dues.length x u) (h2:d ≤ -netF (frD dues) (ttD dues) dues.length x v)
  (h:∀ z,netF (frD dues) (ttD dues) dues.length y z = netF (frD dues) (ttD dues) dues.length x z + (if v = z then d else 0) - (if u = z then d else 0)):posS n dues y = posS n dues x - d:=by
 have hne:¬ v = u:=fun e=>by subst e; omega
 unfold posS
 rw [sumN_congr (h:=fun z=>(if 0 < netF (frD dues) (ttD dues) dues.length x z then netF (frD dues) (ttD dues) dues.length x z else 0) - (if z = u then d else 0)) fun z _=>?_,sumN_sub,sumN_one hu]
 rw [h z]
 by_cases e1:z = u
 ·subst e1
  rw [if_neg hne,if_pos rfl]
  split <;> split <;> omega
 ·rw [if_neg (fun q:u = z=>e1 q.symm),if_neg e1]
  by_cases e2:v = z
  ·subst e2
   rw [if_pos rfl]
   split <;> split <;> omega
  ·rw [if_neg e2]
   simp
theorem capOf {l:List GClearingStep} {k:Nat} (hk:k < l.length):(el (l.map stpOf) k).most = (el l k).most:=by rw [el_map' stpOf l k hk]; rfl
theorem due_in (h:OkD n dues) (x:Nat→Int):∀ g ∈ stepsG dues x dues.length,0 ≤ g.due ∧ g.due < (dues.length:Nat):=by
 intro g hg
 obtain ⟨i,b,hi,rfl,_⟩:=mem_stepsG.1 hg
 simp only [stpG]
 omega
theorem balance_step (h:OkD n dues) {too x:List Int} (hto:too = netL n dues (el x)) (hl:x.length = dues.length) (hr:InR (smD dues) dues.length (el x)) {p:Nat→Int} (hp:Cert (frD dues) (ttD dues) (smD dues) dues.length (el x) p) :
  (∃ too' x',mclearing_balance_l5_s n dues too x = some (.inl (too',x')) ∧ too' = netL n dues (el x') ∧ x'.length = dues.length ∧ InR (smD dues) dues.length (el x') ∧ (∃ p',Cert (frD dues) (ttD dues) (smD dues) dues.length (el x') p') ∧ (posS n dues (el x')).toNat < (posS n dues (el x)).toNat) ∨
  (mclearing_balance_l5_s n dues too x = some (.inr x) ∧ Bald (frD dues) (ttD dues) (smD dues) n dues.length (el x)):=by
 have S:=steps_of h (el x)
 have hpot:=(cert_pot S p).1 hp
 have hlen:=h.len
 have hnn:=h.nn
 have hst:=steps_m h hl hr
 have hok:=steps_ok h (el x)
 have hll:=stepsG_len dues (el x) dues.length
 have htl:too.length = n:=by rw [hto,netL_len]
 have hte:∀ v,v < n→el too v = netF (frD dues) (ttD dues) dues.length (el x) v:=fun v hv=>by rw [hto,netL_el _ hv]
 have hdue:=due_in h (el x)
 generalize stepsG dues (el x) dues.length = l at *
 obtain ⟨best,last,q1,q2,q3,T⟩:=cheap_m (n:=n) (by omega) hok (by omega) htl hpot
 obtain ⟨e,r1,r2⟩:=end_m (sums:=x) (dues:=dues) (by omega:n ≤ 1000) htl q2 last l
 rcases r2 with ⟨rfl,r2⟩ | ⟨v,rfl,hv,hv1,hv2⟩
 ·refine .inr ⟨?_,?_⟩
  ·unfold mclearing_balance_l5_s
   rw [hst,Option.bind_some,q1,Option.bind_some,r1,Option.bind_some,if_pos (by decide)]
  ·refine balance_end (F:=fun v=>(el best v).fine) (q:=fun v=>(el best v).c) (μ:=fun v=>(el best v).k.toNat) (last:=last) S h.fr h.tt hr ⟨fun w hw hF=>?_,T.closed,fun w hw hR=>T.root w hw ?_⟩ fun w hw hneg=>r2 w hw (by rw [hte w hw]; exact hneg)
   ·rcases T.tree w hw hF with ⟨t1,t2⟩ | t
    ·exact .inl ⟨t1,by have:=of_decide_eq_true t2; rw [hte w hw] at this; exact this⟩
    ·exact .inr t
   ·rw [hte w hw]; exact decide_eq_true hR
 ·obtain ⟨ks,u,w,hu,hRu,hFu,hk⟩:=T.path _ v (Nat.lt_succ_self _) hv hv2
  have hu1:=of_decide_eq_true hRu
  have hkl:∀ k ∈ ks,k < l.length:=fun k hks=>by have:=(hk k hks).1; rwa [List.length_map] at this
  obtain ⟨_,hnd⟩:=w.dues S (μ:=fun v=>(el best v).k.toNat) fun k hks=>⟨(hk k hks).1,(hk k hks).2.2.2.1⟩
  have hksl:ks.length ≤ 100:=by
   have:=nodF_le dues.length _ hnd (fun z hz=>by
    obtain ⟨k,hks,rfl⟩:=List.mem_map.1 hz
    rw [el_map' stpOf l k (hkl k hks)]
    have:=hdue (el l k) (by rw [show el l k = l[k]'(hkl k hks) from by simp [el,hkl k hks]]; exact List.getElem_mem _)
    show (el l k).due.toNat < _
    omega)
   rw [List.length_map] at this
   omega
  have hpos:∀ k ∈ ks,0 < (el l k).most:=fun k hks=>by
   obtain ⟨i,b,_,_,hm,e⟩:=S.sound k (hk k hks).1
   rw [← capOf (hkl k hks),e]; exact hm
  have hbnd:∀ z,z < n→-(100 * 1099511627776) ≤ el too z ∧ el too z ≤ 100 * 1099511627776:=fun z hz=>by
   rw [hte z hz]
   have:=netF_bound (fr:=frD dues) (tt:=ttD dues) (x:=el x) (S:=1099511627776) (by omega) dues.length (fun i hi=>by have:=hr i hi; have:=h.each i hi; unfold smD at *; omega) z
   have:(dues.length:Int) * 1099511627776 ≤ 100 * 1099511627776:=by omega
   omega
  have bv:=hbnd v hv
  have bu:=hbnd u hu
  have hneg0:IntKind.wrap .i64 (0 - el too v) = -el too v:=by rw [wrap_id (by omega) (by omega)]; omega
  have hmm:=minM_le l ks (-el too v)
  have hmp:=minM_pos l ks (-el too v) (by omega) hpos
  have w1:=walk_most hok q3 n dues too x (best.map gLab) v w hv (-el too v)
  generalize hmv:minM l (-el too v) ks = mm at *
  have hd:0 < (if el too u < mm then el too u else mm) ∧ (if el too u < mm then el too u else mm) ≤ mm ∧ (if el too u < mm then el too u else mm) ≤ el too u:=by split <;> omega
  have w2:=walk_move hok q3 (m:=dues.length) hdue n dues too (best.map gLab) v (mm,(u:Int)) (el too u) (D:=100 * 1099511627776) (by omega) (by omega) w hv x 1099511627776 hl (fun i=>by
   by_cases hi:i < dues.length
   ·have:=hr i hi; have:=h.each i hi; unfold smD at *; omega
   ·rw [show el x i = 0 by simp [el,show ¬ i < x.length by omega]]; omega) (by
   have:(ks.length:Int) * (100 * 1099511627776) ≤ 100 * (100 * 1099511627776):=Int.mul_le_mul_of_nonneg_right (by omega) (by omega)
   omega)
  dsimp only at w2
  generalize hde:(if el too u < mm then el too u else mm) = d at *
  obtain ⟨m1,m2,m3,m4⟩:=balance_move hl S h.fr h.tt hr hp (F:=fun v=>(el best v).fine) T w (fun k hks=>⟨(hk k hks).1,(hk k hks).2.1,(hk k hks).2.2.1,(hk k hks).2.2.2.1,(hk k hks).2.2.2.2.2⟩) (d:=d) (by omega) (fun k hks=>by rw [capOf (hkl k hks)]; have:=hmm.2 k hks; omega)
  have hne:¬ v = u:=fun e=>by subst e; omega
  refine .inl ⟨netL n dues (el (mvL (l.map stpOf) d x ks)),mvL (l.map stpOf) d x ks,?_,rfl,m1,m2,m3,?_⟩
  ·unfold mclearing_balance_l5_s
   have cn:¬ decide ((v:Int) < 0) = true:=by simp
   have cv:0 ≤ (v:Int) ∧ (v:Int).toNat < too.length:=⟨by omega,by rw [Int.toNat_natCast]; omega⟩
   have cu:0 ≤ (u:Int) ∧ (u:Int).toNat < too.length:=⟨by omega,by rw [Int.toNat_natCast]; omega⟩
   have ev:too[(v:Int).toNat]? = some (el too v):=by rw [Int.toNat_natCast]; exact atE too v (by omega)
   have eu:too[(u:Int).toNat]? = some (el too u):=by rw [Int.toNat_natCast]; exact atE too u (by omega)
   have wu:IntKind.wrap .i64 (el too u - d) = el too u - d:=wrap_id (by omega) (by omega)
   have wv:IntKind.wrap .i64 (el too v + d) = el too v + d:=wrap_id (by omega) (by omega)
   have cv2:0 ≤ (v:Int) ∧ (v:Int).toNat < (too.set (u:Int).toNat (el too u - d)).length:=⟨by omega,by rw [List.length_set,Int.toNat_natCast]; omega⟩
   have ev2:(too.set (u:Int).toNat (el too u - d))[(v:Int).toNat]? = some (el too v):=by
    rw [Int.toNat_natCast,Int.toNat_natCast,atE _ _ (by rw [List.length_set]; omega),el_set_any,if_neg fun q=>hne q.1]
   simp only [hst,q1,r1,Option.bind_some,if_neg cn,if_pos cv,ev,hneg0,w1,if_pos cu,eu,hde,w2,wu,if_pos cv2,ev2,wv]
   congr 3
   refine ext_elC (by rw [List.length_set,List.length_set,htl,netL_len]) fun z hz=>?_
   rw [List.length_set,List.length_set,htl] at hz
   rw [netL_el _ hz,m4 z,el_set_any,el_set_any,Int.toNat_natCast,Int.toNat_natCast,List.length_set,htl,← hte z hz]
   by_cases e1:z = v
   ·subst e1
    have hzu:¬ u = z:=fun q=>hne q.symm
    rw [if_pos ⟨rfl,hz⟩,if_pos rfl,if_neg hzu]; omega
   ·have hvz:¬ v = z:=fun q=>e1 q.symm
    have hc1:¬ (z = v ∧ v < n):=fun q=>e1 q.1
    by_cases e2:z = u
    ·subst e2
     rw [if_neg hc1,if_neg hvz,if_pos ⟨rfl,hz⟩,if_pos rfl]; omega
    ·have huz:¬ u = z:=fun q=>e2 q.symm
     have hc2:¬ (z = u ∧ u < n):=fun q=>e2 q.1
     rw [if_neg hc1,if_neg hvz,if_neg hc2,if_neg huz]; omega
  ·have h1:=posS_move (dues:=dues) (x:=el x) (y:=el (mvL (l.map stpOf) d x ks)) hu (by omega:0 < d) (by rw [← hte u hu]; omega) (by rw [← hte v hv]; omega) m4
   have h2:=posS_nonneg (n:=n) (dues:=dues) (el (mvL (l.map stpOf) d x ks))
   omega
theorem balance_m (h:OkD n dues) (hl:sums.length = dues.length) (hfull:∀ i,i < dues.length→el sums i = smD dues i):∃ x,mclearing_balance n dues sums = some x ∧ x.length = dues.length ∧ Bald (frD dues) (ttD dues) (smD dues) n dues.length (el x) ∧ ∃ p,Cert (frD dues) (ttD dues) (smD dues) dues.length (el x) p:=by
 have hr:InR (smD dues) dues.length (el sums):=fun i hi=>by have:=h.each i hi; have:=hfull i hi; unfold smD at *; omega
 have hnn:=h.nn
 have hc:Cert (frD dues) (ttD dues) (smD dues) dues.length (el sums) fun _=>0:=fun i hi=>⟨fun c=>by rw [hfull i hi] at c; omega,fun _=>by show (0:Int) ≤ 0 + 1; omega⟩
 unfold mclearing_balance
 rw [if_pos (by omega),Int.toNat_natCast,nets_m h hl hr,Option.bind_some]
 unfold mclearing_balance_l5
 obtain ⟨x,h1,h2⟩:=iter_meas (step:=fun (w:List Int × List Int)=>mclearing_balance_l5_s n dues w.1 w.2) (fun w=>w.1 = netL n dues (el w.2) ∧ w.2.length = dues.length ∧ InR (smD dues) dues.length (el w.2) ∧ ∃ p,Cert (frD dues) (ttD dues) (smD dues) dues.length (el w.2) p) (fun w=>(posS n dues (el w.2)).toNat)
  (fun x=>x.length = dues.length ∧ Bald (frD dues) (ttD dues) (smD dues) n dues.length (el x) ∧ ∃ p,Cert (frD dues) (ttD dues) (smD dues) dues.length (el x) p) (fun w ⟨i1,i2,i3,p,i4⟩=>by
   rcases balance_step h i1 i2 i3 i4 with ⟨too',x',s1,s2,s3,s4,s5,s6⟩ | ⟨s1,s2⟩
   ·exact .inl ⟨(too',x'),s1,⟨s2,s3,s4,s5⟩,s6⟩
   ·exact .inr ⟨_,s1,i2,s2,p,i4⟩) (netL n dues (el sums),sums) ⟨rfl,hl,hr,_,hc⟩
 rw [h1]
 exact ⟨x,rfl,h2⟩
end
end Go.Proofs.Ytgipgbhlibafhaa
