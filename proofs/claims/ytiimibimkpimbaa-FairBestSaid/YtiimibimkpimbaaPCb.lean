/- Clearing: balancing ends balanced, and best. Clearing: the potentials are the least costs of steps. Clearing: raising one due. Clearing: what Clear returns. Clearing: what Right, Total, Balanced and Proves say. Clearing: what Balanced and Proves say. -/
import Derived.Test.YtiimibimkpimbaaPCa
set_option linter.unusedVariables false
set_option linter.unusedSimpArgs false
namespace Go.Proofs.Ytiimibimkpimbaa
open Go.RowKit Vm
section
variable {n:Nat} {dues:List aG} {sums:List Int}
def VU (n:Nat) (dues:List aG) (x:Nat→Int):Int:=gU (fun v=>if 0 < lN (mF dues) (nL dues) dues.length x v then lN (mF dues) (nL dues) dues.length x v else 0) n
theorem T8 (x:Nat→Int):0 ≤ VU n dues x:=JE fun v _=>by split <;> omega
theorem aAe {x y:Nat→Int} {u v:Nat} {d:Int} (hu:u < n) (hd:0 < d) (h1:d ≤ lN (mF dues) (nL dues) dues.length x u) (h2:d ≤ -lN (mF dues) (nL dues) dues.length x v)
  (h:∀ z,lN (mF dues) (nL dues) dues.length y z = lN (mF dues) (nL dues) dues.length x z + (if v = z then d else 0) - (if u = z then d else 0)):VU n dues y = VU n dues x - d:=by
 have hne:¬ v = u:=fun e=>by subst e; omega
 unfold VU
 rw [kE (h:=fun z=>(if 0 < lN (mF dues) (nL dues) dues.length x z then lN (mF dues) (nL dues) dues.length x z else 0) - (if z = u then d else 0)) fun z _=>?_,xG,GM hu]
 rw [h z]
 by_cases e1:z = u
 ·subst e1
  rw [if_neg hne,if_pos rfl]
  split <;> split <;> omega
 ·rw [if_neg (fun q:u = z=>e1 q.symm),if_neg e1]
  by_cases e2:v = z
  ·subst e2
   rw [if_pos rfl]
   split <;> split <;> omega
  ·rw [if_neg e2]
   simp
theorem Y1 {l:List aB} {k:Nat} (hk:k < l.length):(el (l.map bR) k).most = (el l k).most:=by rw [iH bR l k hk]; rfl
theorem aDh (h:EA n dues) (x:Nat→Int):∀ g ∈ iM dues x dues.length,0 ≤ g.due ∧ g.due < (dues.length:Nat):=by
 intro g hg
 obtain ⟨i,b,hi,rfl,_⟩:=uY.1 hg
 simp only [DG]
 omega
theorem PV (h:EA n dues) {too x:List Int} (hto:too = BM n dues (el x)) (hl:x.length = dues.length) (hr:Z2 (pV dues) dues.length (el x)) {p:Nat→Int} (hp:rR (mF dues) (nL dues) (pV dues) dues.length (el x) p) :
  (∃ too' x',eH n dues too x = some (.inl (too',x')) ∧ too' = BM n dues (el x') ∧ x'.length = dues.length ∧ Z2 (pV dues) dues.length (el x') ∧ (∃ p',rR (mF dues) (nL dues) (pV dues) dues.length (el x') p') ∧ (VU n dues (el x')).toNat < (VU n dues (el x)).toNat) ∨
  (eH n dues too x = some (.inr x) ∧ sX (mF dues) (nL dues) (pV dues) n dues.length (el x)):=by
 have S:=GO h (el x)
 have hpot:=(C8 S p).1 hp
 have hlen:=h.len
 have hnn:=h.nn
 have hst:=KA h hl hr
 have hok:=G2 h (el x)
 have hll:=u4 dues (el x) dues.length
 have htl:too.length = n:=by rw [hto,AC]
 have hte:∀ v,v < n→el too v = lN (mF dues) (nL dues) dues.length (el x) v:=fun v hv=>by rw [hto,F7 _ hv]
 have hdue:=aDh h (el x)
 generalize iM dues (el x) dues.length = l at *
 obtain ⟨best,last,q1,q2,q3,T⟩:=YB (n:=n) (by omega) hok (by omega) htl hpot
 obtain ⟨e,r1,r2⟩:=aKQ (sums:=x) (dues:=dues) (by omega:n ≤ 1000) htl q2 last l
 rcases r2 with ⟨rfl,r2⟩ | ⟨v,rfl,hv,hv1,hv2⟩
 ·refine .inr ⟨?_,?_⟩
  ·unfold eH
   rw [hst,Option.bind_some,q1,Option.bind_some,r1,Option.bind_some,if_pos (by decide)]
  ·refine T7 (F:=fun v=>(el best v).fine) (q:=fun v=>(el best v).c) (μ:=fun v=>(el best v).k.toNat) (last:=last) S h.fr h.tt hr ⟨fun w hw hF=>?_,T.closed,fun w hw hR=>T.root w hw ?_⟩ fun w hw hneg=>r2 w hw (by rw [hte w hw]; exact hneg)
   ·rcases T.tree w hw hF with ⟨t1,t2⟩ | t
    ·exact .inl ⟨t1,by have:=of_decide_eq_true t2; rw [hte w hw] at this; exact this⟩
    ·exact .inr t
   ·rw [hte w hw]; exact decide_eq_true hR
 ·obtain ⟨ks,u,w,hu,hRu,hFu,hk⟩:=T.path _ v (Nat.lt_succ_self _) hv hv2
  have hu1:=of_decide_eq_true hRu
  have hkl:∀ k ∈ ks,k < l.length:=fun k hks=>by have:=(hk k hks).1; rwa [List.length_map] at this
  obtain ⟨_,hnd⟩:=w.dues S (μ:=fun v=>(el best v).k.toNat) fun k hks=>⟨(hk k hks).1,(hk k hks).2.2.2.1⟩
  have hksl:ks.length ≤ 100:=by
   have:=KJ dues.length _ hnd (fun z hz=>by
    obtain ⟨k,hks,rfl⟩:=List.mem_map.1 hz
    rw [iH bR l k (hkl k hks)]
    have:=hdue (el l k) (by rw [show el l k = l[k]'(hkl k hks) from by simp [el,hkl k hks]]; exact List.getElem_mem _)
    show (el l k).due.toNat < _
    omega)
   rw [List.length_map] at this
   omega
  have hpos:∀ k ∈ ks,0 < (el l k).most:=fun k hks=>by
   obtain ⟨i,b,_,_,hm,e⟩:=S.sound k (hk k hks).1
   rw [← Y1 (hkl k hks),e]; exact hm
  have hbnd:∀ z,z < n→-(100 * 1099511627776) ≤ el too z ∧ el too z ≤ 100 * 1099511627776:=fun z hz=>by
   rw [hte z hz]
   have:=B0 (fr:=mF dues) (tt:=nL dues) (x:=el x) (S:=1099511627776) (by omega) dues.length (fun i hi=>by have:=hr i hi; have:=h.each i hi; unfold pV at *; omega) z
   have:(dues.length:Int) * 1099511627776 ≤ 100 * 1099511627776:=by omega
   omega
  have bv:=hbnd v hv
  have bu:=hbnd u hu
  have hneg0:IntKind.wrap .i64 (0 - el too v) = -el too v:=by rw [jZ (by omega) (by omega)]; omega
  have hmm:=Q2 l ks (-el too v)
  have hmp:=LG l ks (-el too v) (by omega) hpos
  have w1:=aBM hok q3 n dues too x (best.map mL) v w hv (-el too v)
  generalize hmv:KZ l (-el too v) ks = mm at *
  have hd:0 < (if el too u < mm then el too u else mm) ∧ (if el too u < mm then el too u else mm) ≤ mm ∧ (if el too u < mm then el too u else mm) ≤ el too u:=by split <;> omega
  have w2:=aAb hok q3 (m:=dues.length) hdue n dues too (best.map mL) v (mm,(u:Int)) (el too u) (D:=100 * 1099511627776) (by omega) (by omega) w hv x 1099511627776 hl (fun i=>by
   by_cases hi:i < dues.length
   ·have:=hr i hi; have:=h.each i hi; unfold pV at *; omega
   ·rw [show el x i = 0 by simp [el,show ¬ i < x.length by omega]]; omega) (by
   have:(ks.length:Int) * (100 * 1099511627776) ≤ 100 * (100 * 1099511627776):=Int.mul_le_mul_of_nonneg_right (by omega) (by omega)
   omega)
  dsimp only at w2
  generalize hde:(if el too u < mm then el too u else mm) = d at *
  obtain ⟨m1,m2,m3,m4⟩:=P0 hl S h.fr h.tt hr hp (F:=fun v=>(el best v).fine) T w (fun k hks=>⟨(hk k hks).1,(hk k hks).2.1,(hk k hks).2.2.1,(hk k hks).2.2.2.1,(hk k hks).2.2.2.2.2⟩) (d:=d) (by omega) (fun k hks=>by rw [Y1 (hkl k hks)]; have:=hmm.2 k hks; omega)
  have hne:¬ v = u:=fun e=>by subst e; omega
  refine .inl ⟨BM n dues (el (yP (l.map bR) d x ks)),yP (l.map bR) d x ks,?_,rfl,m1,m2,m3,?_⟩
  ·unfold eH
   have cn:¬ decide ((v:Int) < 0) = true:=by simp
   have cv:0 ≤ (v:Int) ∧ (v:Int).toNat < too.length:=⟨by omega,by rw [Int.toNat_natCast]; omega⟩
   have cu:0 ≤ (u:Int) ∧ (u:Int).toNat < too.length:=⟨by omega,by rw [Int.toNat_natCast]; omega⟩
   have ev:too[(v:Int).toNat]? = some (el too v):=by rw [Int.toNat_natCast]; exact CH too v (by omega)
   have eu:too[(u:Int).toNat]? = some (el too u):=by rw [Int.toNat_natCast]; exact CH too u (by omega)
   have wu:IntKind.wrap .i64 (el too u - d) = el too u - d:=jZ (by omega) (by omega)
   have wv:IntKind.wrap .i64 (el too v + d) = el too v + d:=jZ (by omega) (by omega)
   have cv2:0 ≤ (v:Int) ∧ (v:Int).toNat < (too.set (u:Int).toNat (el too u - d)).length:=⟨by omega,by rw [List.length_set,Int.toNat_natCast]; omega⟩
   have ev2:(too.set (u:Int).toNat (el too u - d))[(v:Int).toNat]? = some (el too v):=by
    rw [Int.toNat_natCast,Int.toNat_natCast,CH _ _ (by rw [List.length_set]; omega),eR,if_neg fun q=>hne q.1]
   simp only [hst,q1,r1,Option.bind_some,if_neg cn,if_pos cv,ev,hneg0,w1,if_pos cu,eu,hde,w2,wu,if_pos cv2,ev2,wv]
   congr 3
   refine yE (by rw [List.length_set,List.length_set,htl,AC]) fun z hz=>?_
   rw [List.length_set,List.length_set,htl] at hz
   rw [F7 _ hz,m4 z,eR,eR,Int.toNat_natCast,Int.toNat_natCast,List.length_set,htl,← hte z hz]
   by_cases e1:z = v
   ·subst e1
    have hzu:¬ u = z:=fun q=>hne q.symm
    rw [if_pos ⟨rfl,hz⟩,if_pos rfl,if_neg hzu]; omega
   ·have hvz:¬ v = z:=fun q=>e1 q.symm
    have hc1:¬ (z = v ∧ v < n):=fun q=>e1 q.1
    by_cases e2:z = u
    ·subst e2
     rw [if_neg hc1,if_neg hvz,if_pos ⟨rfl,hz⟩,if_pos rfl]; omega
    ·have huz:¬ u = z:=fun q=>e2 q.symm
     have hc2:¬ (z = u ∧ u < n):=fun q=>e2 q.1
     rw [if_neg hc1,if_neg hvz,if_neg hc2,if_neg huz]; omega
  ·have h1:=aAe (dues:=dues) (x:=el x) (y:=el (yP (l.map bR) d x ks)) hu (by omega:0 < d) (by rw [← hte u hu]; omega) (by rw [← hte v hv]; omega) m4
   have h2:=T8 (n:=n) (dues:=dues) (el (yP (l.map bR) d x ks))
   omega
theorem aBq (h:EA n dues) (hl:sums.length = dues.length) (hfull:∀ i,i < dues.length→el sums i = pV dues i):∃ x,kZ n dues sums = some x ∧ x.length = dues.length ∧ sX (mF dues) (nL dues) (pV dues) n dues.length (el x) ∧ ∃ p,rR (mF dues) (nL dues) (pV dues) dues.length (el x) p:=by
 have hr:Z2 (pV dues) dues.length (el sums):=fun i hi=>by have:=h.each i hi; have:=hfull i hi; unfold pV at *; omega
 have hnn:=h.nn
 have hc:rR (mF dues) (nL dues) (pV dues) dues.length (el sums) fun _=>0:=fun i hi=>⟨fun c=>by rw [hfull i hi] at c; omega,fun _=>by show (0:Int) ≤ 0 + 1; omega⟩
 unfold kZ
 rw [if_pos (by omega),Int.toNat_natCast,aJ3 h hl hr,Option.bind_some]
 unfold nT
 obtain ⟨x,h1,h2⟩:=OI (step:=fun (w:List Int × List Int)=>eH n dues w.1 w.2) (fun w=>w.1 = BM n dues (el w.2) ∧ w.2.length = dues.length ∧ Z2 (pV dues) dues.length (el w.2) ∧ ∃ p,rR (mF dues) (nL dues) (pV dues) dues.length (el w.2) p) (fun w=>(VU n dues (el w.2)).toNat)
  (fun x=>x.length = dues.length ∧ sX (mF dues) (nL dues) (pV dues) n dues.length (el x) ∧ ∃ p,rR (mF dues) (nL dues) (pV dues) dues.length (el x) p) (fun w ⟨i1,i2,i3,p,i4⟩=>by
   rcases PV h i1 i2 i3 i4 with ⟨too',x',s1,s2,s3,s4,s5,s6⟩ | ⟨s1,s2⟩
   ·exact .inl ⟨(too',x'),s1,⟨s2,s3,s4,s5⟩,s6⟩
   ·exact .inr ⟨_,s1,i2,s2,p,i4⟩) (BM n dues (el sums),sums) ⟨rfl,hl,hr,_,hc⟩
 rw [h1]
 exact ⟨x,rfl,h2⟩
end
end Go.Proofs.Ytiimibimkpimbaa
set_option linter.unusedVariables false
set_option linter.unusedSimpArgs false
namespace Go.Proofs.Ytiimibimkpimbaa
open Go.RowKit Vm
def nS (a b:Int):Bool:=decide (a < b)
def vZ (a:Int) (s:gE):Int:=a + s.cost
def aBZ (a:Int) (c:Int) (k:Nat):Int:=a + c
theorem L2 (a b:Int):nS a b = false ↔ b ≤ a:=by simp [nS]
theorem aL5:aCm nS vZ where
 irr a:=by simp [nS]
 asym a b h:=by simp [nS] at *; omega
 neg a b c h1 h2:=by simp [nS] at *; omega
 mono a b s h:=by simp [nS,vZ] at *; omega
theorem aKY (cst:gE→Int) (hc:∀ s,cst s = s.cost):aBB nS vZ cst aBZ where
 zero a:=by simp [aBZ]
 step a c k s:=by
  rw [hc]
  simp only [aBZ,vZ]
  omega
 le a c k c' k' h:=by
  unfold DU
  rw [L2]
  simp only [aBZ]
  omega
def LC (n:Nat) (B:Int) (best:List Int):Prop:=∀ v,v < n→-B ≤ el best v ∧ el best v ≤ B
theorem GE {n:Nat} {l:List aB} {best:List Int} {last:List Int} {B:Int} (hl:∀ g ∈ l,EU n g) (hb:best.length = n) (hla:last.length = n) (h:LC n B best) (hB:0 ≤ B):∀ k,k ≤ l.length →
  (((List.range k).foldl (iG nS vZ gE.src gE.dst (l.map bR)) (best,last,false)).1.length = n ∧ ((List.range k).foldl (iG nS vZ gE.src gE.dst (l.map bR)) (best,last,false)).2.1.length = n ∧ LC n (B + k) ((List.range k).foldl (iG nS vZ gE.src gE.dst (l.map bR)) (best,last,false)).1):=by
 intro k
 induction k with
 | zero=>intro _; exact ⟨hb,hla,by simpa using h⟩
 | succ k ih =>
  intro hk
  obtain ⟨h1,h2,h3⟩:=ih (by omega)
  rw [List.range_succ,List.foldl_append,List.foldl_cons,List.foldl_nil]
  generalize (List.range k).foldl (iG nS vZ gE.src gE.dst (l.map bR)) (best,last,false) = z at *
  have hg:=hl (el l k) (by rw [show el l k = l[k] from by simp [el,show k < l.length by omega]]; exact List.getElem_mem _)
  obtain ⟨⟨g1,g2⟩,⟨g3,g4⟩,g5,g6⟩:=hg
  have hmono:LC n (B + (k + 1:Nat)) z.1:=fun v hv=>by have:=h3 v hv; omega
  unfold iG
  rw [iH bR l k (by omega)]
  split
  ·refine ⟨by simp [h1],by simp [h2],fun v hv=>?_⟩
   dsimp only
   rw [eR]
   split
   ·have:=h3 (el l k).from_.toNat (by omega)
    simp only [vZ,bR,gE.src]
    omega
   ·exact hmono v hv
  ·exact ⟨h1,h2,hmono⟩
theorem aA0 (a b:Int):pU a b = some (nS a b):=by
 unfold pU o6
 simp [nS]
theorem WI {n:Nat} {l:List aB} {best:List Int} {last:List Int} {B:Int} (hl:∀ g ∈ l,EU n g) (hb:best.length = n) (hla:last.length = n) (h:LC n B best) (hB:0 ≤ B) (hBl:B + l.length ≤ 4611686018427387904) :
  iX l false 0 best last = some ((pH nS vZ gE.src gE.dst (l.map bR) best last).2.2,(pH nS vZ gE.src gE.dst (l.map bR) best last).1,(pH nS vZ gE.src gE.dst (l.map bR) best last).2.1):=by
 unfold iX pH
 rw [List.length_map]
 suffices hh:∃ x,eU (fun (w:Bool × Int × List Int × List Int)=>eB l w.1 w.2.1 w.2.2.1 w.2.2.2) (false,0,best,last) = some x ∧ x = (((List.range l.length).foldl (iG nS vZ gE.src gE.dst (l.map bR)) (best,last,false)).2.2,((List.range l.length).foldl (iG nS vZ gE.src gE.dst (l.map bR)) (best,last,false)).1,((List.range l.length).foldl (iG nS vZ gE.src gE.dst (l.map bR)) (best,last,false)).2.1) by
  obtain ⟨x,h1,h2⟩:=hh
  rw [h2] at h1; exact h1
 refine pD (step:=fun (w:Bool × Int × List Int × List Int)=>eB l w.1 w.2.1 w.2.2.1 w.2.2.2) (fun k (a:List Int × List Int × Bool)=>(a.2.2,(k:Int),a.1,a.2.1)) l.length
  (fun k a=>a = (List.range k).foldl (iG nS vZ gE.src gE.dst (l.map bR)) (best,last,false)) (fun x=>x = (((List.range l.length).foldl (iG nS vZ gE.src gE.dst (l.map bR)) (best,last,false)).2.2,((List.range l.length).foldl (iG nS vZ gE.src gE.dst (l.map bR)) (best,last,false)).1,((List.range l.length).foldl (iG nS vZ gE.src gE.dst (l.map bR)) (best,last,false)).2.1)) ?_ ?_ (best,last,false) rfl
 ·rintro k a hk rfl
  refine .inl ?_
  obtain ⟨q1,q2,q3⟩:=GE hl hb hla h hB k (by omega)
  rw [List.range_succ,List.foldl_append,List.foldl_cons,List.foldl_nil]
  generalize (List.range k).foldl (iG nS vZ gE.src gE.dst (l.map bR)) (best,last,false) = z at *
  have hg:=hl (el l k) (by rw [show el l k = l[k] from by simp [el,hk]]; exact List.getElem_mem _)
  obtain ⟨⟨g1,g2⟩,⟨g3,g4⟩,g5,g6⟩:=hg
  refine ⟨_,?_,rfl⟩
  unfold eB
  have e1:z.1[(el l k).from_.toNat]? = some (el z.1 (el l k).from_.toNat):=CH z.1 _ (by omega)
  have e2:z.1[(el l k).to.toNat]? = some (el z.1 (el l k).to.toNat):=CH z.1 _ (by omega)
  have b:=q3 (el l k).from_.toNat (by omega)
  have c0:decide ((k:Int) < (l.length:Int)) = true:=by simpa using hk
  have ck:0 ≤ (k:Int) ∧ (k:Int).toNat < l.length:=⟨by omega,by rw [Int.toNat_natCast]; omega⟩
  have ek:l[(k:Int).toNat]? = some (el l k):=by rw [Int.toNat_natCast]; exact CH l k hk
  have cF:0 ≤ (el l k).from_ ∧ (el l k).from_.toNat < z.1.length:=⟨g1,by omega⟩
  have cT:0 ≤ (el l k).to ∧ (el l k).to.toNat < z.1.length:=⟨g3,by omega⟩
  have cL:0 ≤ (el l k).to ∧ (el l k).to.toNat < z.2.1.length:=⟨g3,by omega⟩
  have ho:gX (el z.1 (el l k).from_.toNat) (el l k) = some (vZ (el z.1 (el l k).from_.toNat) (bR (el l k))):=by
   unfold gX
   rw [jZ (by omega) (by omega)]
   rfl
  have w3:IntKind.wrap .i64 ((k:Int) + 1) = ((k + 1:Nat):Int):=dB (by omega)
  have eL:z.2.1[(el l k).to.toNat]? = some (el z.2.1 (el l k).to.toNat):=CH z.2.1 _ (by omega)
  simp only [if_pos c0,if_pos ck,ek,Option.bind_some,if_pos cF,e1,ho,if_pos cT,e2,aA0,w3,if_pos cL,eL]
  unfold iG
  rw [iH bR l k hk]
  have e3:gE.src (bR (el l k)) = (el l k).from_.toNat:=rfl
  have e4:gE.dst (bR (el l k)) = (el l k).to.toNat:=rfl
  rw [e3,e4]
  split
  ·rfl
  ·rfl
 ·rintro a rfl
  refine ⟨_,?_,rfl⟩
  unfold eB
  rw [if_neg (by simp)]
theorem OZ {n:Nat} {l:List aB} (hl:∀ g ∈ l,EU n g):∀ (f:Nat) (best:List Int) (last:List Int) (B:Int) (b:List Int) (la:List Int),best.length = n→last.length = n→LC n B best→0 ≤ B→B + (f * l.length:Nat) ≤ 4611686018427387904 →
  NH nS vZ gE.src gE.dst (l.map bR) f best last = some (b,la)→iW l true best last = some (b,la)
 | 0,best,last,B,b,la,_,_,_,_,_,h=>by cases h
 | f + 1,best,last,B,b,la,hb,hla,hB,hB0,hBf,h=>by
  have hmul:(f + 1) * l.length = f * l.length + l.length:=Nat.succ_mul f l.length
  have hr:=WI hl hb hla hB hB0 (by omega)
  obtain ⟨q1,q2,q3⟩:=GE hl hb hla hB hB0 l.length (Nat.le_refl _)
  have e0:pH nS vZ gE.src gE.dst (l.map bR) best last = (List.range l.length).foldl (iG nS vZ gE.src gE.dst (l.map bR)) (best,last,false):=by unfold pH; rw [List.length_map]
  rw [← e0] at q1 q2 q3
  simp only [NH] at h
  generalize pH nS vZ gE.src gE.dst (l.map bR) best last = z at *
  unfold iW
  rw [gH (s':=(z.2.2,z.1,z.2.1)) (by unfold fZ; rw [if_pos rfl,hr]; rfl)]
  split at h
  ·rename_i hc
   rw [hc]
   exact OZ hl f z.1 z.2.1 (B + l.length) b la q1 q2 q3 (by omega) (by omega) h
  ·rename_i hc
   cases h
   exact gB (by unfold fZ; exact if_neg hc)
theorem J3.cost_ge {l:List gE} (hc:∀ i,i < l.length→-1 ≤ (el l i).cost) {u k v:Nat} {c:Int} (w:J3 gE.src gE.dst gE.cost l u k c v):-(k:Int) ≤ c:=by
 induction w with
 | zero=>omega
 | step i hi _ ih=>have:=hc i hi; omega
structure FS (n:Nat) (l:List gE) (q:Nat→Int):Prop where
 le0:∀ v,v < n→q v ≤ 0
 lo:∀ v,v < n→-(n:Int) + 1 ≤ q v
 pot:Pot gE.src gE.dst gE.cost l q
 wk:∀ v,v < n→∃ u k,u < n ∧ J3 gE.src gE.dst gE.cost l u k (q v) v
 le:∀ u k c v,u < n→J3 gE.src gE.dst gE.cost l u k c v→q v ≤ c
theorem FS.one {n:Nat} {l:List gE} {q q' : Nat→Int} (h:FS n l q) (h' : FS n l q') {v:Nat} (hv:v < n):q v = q' v:=by
 obtain ⟨u,k,hu,w⟩:=h.wk v hv
 obtain ⟨u',k',hu',w'⟩:=h'.wk v hv
 have a:=h.le u' k' _ v hu' w'
 have b:=h'.le u k _ v hu w
 omega
theorem aDw {n:Nat} {dues:List aG} {x:List Int} (h:EA n dues) (hl:x.length = dues.length) (hr:Z2 (pV dues) dues.length (el x)) {p:Nat→Int} (hp:rR (mF dues) (nL dues) (pV dues) dues.length (el x) p) :
  ∃ q,fW n dues x = some q ∧ q.length = n ∧ FS n ((iM dues (el x) dues.length).map bR) (el q):=by
 have S:=GO h (el x)
 have hpot:=(C8 S p).1 hp
 have hlen:=h.len
 have hnn:=h.nn
 have hst:=KA h hl hr
 have hok:=G2 h (el x)
 have hll:=u4 dues (el x) dues.length
 have hs:=S.in_ h.fr h.tt
 generalize iM dues (el x) dues.length = l at *
 have hi:∀ v,v < n→el (List.replicate n (0:Int)) v = 0:=fun v hv=>kC _ _ _ hv
 obtain ⟨q,la,h1,h2,h3,h4⟩:=Y4 aL5 (aKY gE.cost fun _=>rfl) hpot (init:=List.replicate n (0:Int)) (by rw [List.length_replicate]; exact hs) (fuel:=n + 1) (by rw [List.length_replicate]; exact Nat.le_refl _)
 rw [List.length_replicate] at h1 h4
 have hmul:(n + 1) * l.length ≤ 1001 * 100000:=Nat.mul_le_mul (by omega) (by omega)
 have hq:∀ v,v < n→∃ u k,u < n ∧ J3 gE.src gE.dst gE.cost (l.map bR) u k (el q v) v:=by
  intro v hv
  obtain ⟨k,w⟩:=h2.wk v (by rw [List.length_replicate]; exact hv)
  obtain ⟨u,c,hu,hw,e⟩:=aIF (aKY gE.cost fun _=>rfl) w
  rw [List.length_replicate] at hu
  rw [hi u hu] at e
  have e:el q v = c:=by simpa [aBZ] using e
  rw [e]
  exact ⟨u,k,hu,hw⟩
 have hle:∀ u k c v,u < n→J3 gE.src gE.dst gE.cost (l.map bR) u k c v→el q v ≤ c:=by
  intro u k c v hu w
  have:=h4 u k c v hu w
  unfold DU at this
  rw [L2,hi u hu] at this
  simpa [aBZ] using this
 refine ⟨q,?_,by rw [h2.len,List.length_replicate],⟨fun v hv=>hle v 0 0 v hv .zero,fun v hv=>?_,fun i hi'=>?_,hq,hle⟩⟩
 ·unfold fW
  rw [if_pos (by omega),hst,Option.bind_some,Int.toNat_natCast,List.length_replicate,aIM (by omega),Option.bind_some,OZ hok (n + 1) _ _ 0 q la List.length_replicate List.length_replicate (fun v hv=>by rw [hi v hv]; omega) (Int.le_refl _) (by omega) h1]
  rfl
 ·obtain ⟨u,k,hu,w⟩:=hq v hv
  obtain ⟨j,c',hj,w',hc⟩:=w.short hpot hs hu
  have:=hle u j c' v hu w'
  have hge:=w'.cost_ge fun i hi'=>by
   rw [List.length_map] at hi'
   rw [iH bR l i hi']
   exact (hok (el l i) (by rw [show el l i = l[i] from by simp [el,hi']]; exact List.getElem_mem _)).2.2.1
  omega
 ·have:=h3 i hi'
  unfold DU at this
  rw [L2] at this
  exact this
end Go.Proofs.Ytiimibimkpimbaa
set_option linter.unusedVariables false
set_option linter.unusedSimpArgs false
namespace Go.Proofs.Ytiimibimkpimbaa
open Go.RowKit Vm
theorem aGY {α:Type} [Inhabited α] (l:List α) {k:Nat} (h:k < l.length):l.take (k + 1) = l.take k ++ [el l k]:=by
 rw [List.take_add_one,CH l k h]; rfl
def AM (p:List Int) (i:Nat) (g:aB):Bool:=decide ((i:Int) < g.due) && decide (el p g.to.toNat = el p g.from_.toNat + g.cost)
def VX (g:aB):aB:=aB.mk g.due g.from_ g.to 0 g.most g.back
section
variable {n:Nat} {dues:List aG} {p:List Int} {l:List aB}
theorem aGj (hl:∀ g ∈ l,EU n g) (hll:l.length ≤ 100000) (hp:p.length = n) (hpb:∀ v,v < n→-1000 ≤ el p v ∧ el p v ≤ 1000) (i:Nat) (x:List Int):mN n dues p i x l 0 [] = some (l.filter (AM p i)):=by
 unfold mN
 suffices hh:∃ y,eU (fun (w:Int × List aB)=>eO n dues p i x l w.1 w.2) (0,[]) = some y ∧ y = l.filter (AM p i) by
  obtain ⟨y,h1,h2⟩:=hh
  rw [h2] at h1; exact h1
 refine pD (step:=fun (w:Int × List aB)=>eO n dues p i x l w.1 w.2) (fun k (a:List aB)=>((k:Int),a)) l.length (fun k a=>a = (l.take k).filter (AM p i)) _ ?_ ?_ _ (by simp)
 ·rintro k a hk rfl
  refine .inl ⟨_,?_,rfl⟩
  have hlen:((l.take k).filter (AM p i)).length ≤ 100000:=Nat.le_trans (List.length_filter_le _ _) (by rw [List.length_take]; omega)
  obtain ⟨⟨g1,g2⟩,⟨g3,g4⟩,g5,g6⟩:=hl _ (FO _ _ hk)
  rw [aGY l hk,List.filter_append]
  generalize (l.take k).filter (AM p i) = a at *
  show eO n dues p i x l k a = _
  unfold eO
  have c0:decide ((k:Int) < (l.length:Int)) = true:=by simpa using hk
  have ck:0 ≤ (k:Int) ∧ (k:Int).toNat < l.length:=⟨by omega,by rw [Int.toNat_natCast]; omega⟩
  have ek:l[(k:Int).toNat]? = some (el l k):=by rw [Int.toNat_natCast]; exact CH l k hk
  have w3:IntKind.wrap .i64 ((k:Int) + 1) = ((k + 1:Nat):Int):=dB (by omega)
  have eT:at? p (el l k).to = some (el p (el l k).to.toNat):=by
   have:=pS p (el l k).to.toNat (by omega)
   rwa [Int.toNat_of_nonneg g3] at this
  have eF:at? p (el l k).from_ = some (el p (el l k).from_.toNat):=by
   have:=pS p (el l k).from_.toNat (by omega)
   rwa [Int.toNat_of_nonneg g1] at this
  have bT:=hpb (el l k).to.toNat (by omega)
  have bF:=hpb (el l k).from_.toNat (by omega)
  have wF:IntKind.wrap .i64 (el p (el l k).from_.toNat + (el l k).cost) = el p (el l k).from_.toNat + (el l k).cost:=jZ (by omega) (by omega)
  have cL:(a.length + 1) * 48 ≤ 140737488355328:=by omega
  simp only [if_pos c0,if_pos ck,ek,Option.bind_some,eT,eF,wF,w3,if_pos cL]
  by_cases h1:(i:Int) < (el l k).due
  ·have d1:decide ((el l k).due > (i:Int)) = true:=by simpa using h1
   by_cases h2:el p (el l k).to.toNat = el p (el l k).from_.toNat + (el l k).cost
   ·have d2:(el p (el l k).to.toNat == el p (el l k).from_.toNat + (el l k).cost) = true:=by simpa using h2
    have ht:AM p i (el l k) = true:=by unfold AM; rw [decide_eq_true h1,decide_eq_true h2]; rfl
    rw [if_pos d1,if_pos d2,List.filter_cons_of_pos ht]
    rfl
   ·have d2:¬ (el p (el l k).to.toNat == el p (el l k).from_.toNat + (el l k).cost) = true:=by simpa using h2
    have ht:¬ AM p i (el l k) = true:=by unfold AM; rw [decide_eq_false h2]; simp
    rw [if_pos d1,if_neg d2,List.filter_cons_of_neg ht,List.filter_nil,List.append_nil]
  ·have d1:¬ decide ((el l k).due > (i:Int)) = true:=by simpa using h1
   have ht:¬ AM p i (el l k) = true:=by unfold AM; rw [decide_eq_false h1]; simp
   rw [if_neg d1,List.filter_cons_of_neg ht,List.filter_nil,List.append_nil]
 ·rintro a rfl
  rw [List.take_length]
  refine ⟨_,?_,rfl⟩
  show eO n dues p i x l l.length _ = _
  unfold eO
  rw [if_neg (by simp)]
theorem aIW (hll:l.length ≤ 100000) (i:Int) (x:List Int) (d:aG):mJ n dues p i x l d 0 l = some (l.map VX):=by
 unfold mJ
 suffices hh:∃ y,eU (fun (w:Int × List aB)=>eJ n dues p i x l d w.1 w.2) (0,l) = some y ∧ y = l.map VX by
  obtain ⟨y,h1,h2⟩:=hh
  rw [h2] at h1; exact h1
 refine pD (step:=fun (w:Int × List aB)=>eJ n dues p i x l d w.1 w.2) (fun k (a:List aB)=>((k:Int),a)) l.length (fun k a=>a.length = l.length ∧ ∀ j,j < l.length→el a j = if j < k then VX (el l j) else el l j) _ ?_ ?_ _ ⟨rfl,fun j hj=>by rw [if_neg (Nat.not_lt_zero _)]⟩
 ·rintro k a hk ⟨h1,h2⟩
  refine .inl ⟨a.set k (VX (el l k)),?_,by simp [h1],fun j hj=>?_⟩
  ·show eJ n dues p i x l d k a = _
   unfold eJ
   have c0:decide ((k:Int) < (l.length:Int)) = true:=by simpa using hk
   have ck:0 ≤ (k:Int) ∧ (k:Int).toNat < a.length:=⟨by omega,by rw [Int.toNat_natCast]; omega⟩
   have ek:a[(k:Int).toNat]? = some (el l k):=by rw [Int.toNat_natCast,CH a k (by omega),h2 k hk,if_neg (Nat.lt_irrefl _)]
   have w3:IntKind.wrap .i64 ((k:Int) + 1) = ((k + 1:Nat):Int):=dB (by omega)
   simp only [if_pos c0,if_pos ck,ek,Option.bind_some,w3]
   rfl
  ·rw [eR,h2 j hj]
   by_cases e:j = k
   ·subst e
    rw [if_pos ⟨rfl,by omega⟩,if_pos (Nat.lt_succ_self _)]
   ·rw [if_neg fun q=>e q.1]
    by_cases c:j < k
    ·rw [if_pos c,if_pos (by omega)]
    ·rw [if_neg c,if_neg (by omega)]
 ·rintro a ⟨h1,h2⟩
  refine ⟨a,?_,?_⟩
  ·show eJ n dues p i x l d l.length a = _
   unfold eJ
   rw [if_neg (by simp)]
  ·refine yE (by rw [h1,List.length_map]) fun j hj=>?_
   rw [h1] at hj
   rw [h2 j hj,if_pos hj,iH VX l j hj]
theorem TN {e:aB} {fr tt:Nat→Nat} {s x:Nat→Int} {cc:Bool→Int} {i:Nat} {b:Bool} (h:bR e = DW fr tt s x cc i b):bR (VX e) = DW fr tt s x (fun _=>0) i b:=by
 have h1:e.due = i:=congrArg gE.due h
 have h2:=congrArg gE.sf h
 have h3:=congrArg gE.st h
 have h4:=congrArg gE.most h
 have h5:=congrArg gE.back h
 simp only [bR,DW] at h2 h3 h4 h5
 simp only [bR,DW,VX,h1,h2,h3,h4,h5]
theorem aDo (h:EA n dues) (x:Nat→Int) (p:List Int) (i:Nat):pK (mF dues) (nL dues) (pV dues) dues.length x (UD (mF dues) (nL dues) (el p) i) (fun _=>0) ((((iM dues x dues.length).filter (AM p i)).map VX).map bR):=by
 have ht:∀ j b,j < dues.length→(AM p i (DG dues x j b) = true ↔ UD (mF dues) (nL dues) (el p) i j b):=by
  intro j b hj
  unfold AM UD mF nL RF
  rw [Bool.and_eq_true,decide_eq_true_eq,decide_eq_true_eq]
  cases b <;> simp [DG]
 constructor
 ·intro k hk
  rw [List.length_map,List.length_map] at hk
  rw [iH bR _ k (by rw [List.length_map]; exact hk),iH VX _ k hk]
  have hm:=FO _ _ hk
  rw [List.mem_filter] at hm
  obtain ⟨hm1,hm2⟩:=hm
  obtain ⟨j,b,hj,e,hm⟩:=uY.1 hm1
  rw [e] at hm2 ⊢
  refine ⟨j,b,hj,(ht j b hj).1 hm2,?_,TN (qP h hj b)⟩
  have e2:(DW (mF dues) (nL dues) (pV dues) x (fun _=>0) j b).most = (bR (DG dues x j b)).most:=by rw [qP h hj]; rfl
  rw [e2]; exact hm
 ·intro j b hj hT hm
  have e2:(DW (mF dues) (nL dues) (pV dues) x (fun _=>0) j b).most = (bR (DG dues x j b)).most:=by rw [qP h hj]; rfl
  rw [e2] at hm
  have h1:=(uY (dues:=dues) (x:=x) (m:=dues.length)).2 ⟨j,b,hj,rfl,hm⟩
  have h2:=List.mem_filter.2 ⟨h1,(ht j b hj).2 hT⟩
  obtain ⟨k,hk,e⟩:=VR h2
  refine ⟨k,by rw [List.length_map,List.length_map]; exact hk,?_⟩
  rw [iH bR _ k (by rw [List.length_map]; exact hk),iH VX _ k hk,e]
  exact TN (qP h hj b)
theorem WF (hl:∀ g ∈ l,EU n g) {last:List Int} (hla:last.length = n) {m:Nat} (hdue:∀ g ∈ l,0 ≤ g.due ∧ g.due < m) (a0:Int) (a1:List aG) (a3:List Int) (a4:Int) (best:List aD) {d D:Int} (hd0:0 ≤ d) (hdD:d ≤ D) {v u:Nat} {ks:List Nat} (w:Pth (l.map bR) last v ks u):v < n→∀ (x:List Int) (B:Int),x.length = m→(∀ i,-B ≤ el x i ∧ el x i ≤ B)→B + (ks.length:Int) * D ≤ 4611686018427387904 →
  iT a0 a1 a3 a4 l (best,last) d v x = some (yP (l.map bR) d x ks):=by
 induction w with
 | nil v hv =>
  intro hvn x B hxm hx hB
  unfold iT
  refine gB ?_
  show fV a0 a1 a3 a4 l (best,last) d v x = _
  unfold fV
  dsimp only
  rw [if_pos ⟨by omega,by rw [Int.toNat_natCast]; omega⟩,Int.toNat_natCast,CH last v (by omega),hv]
  rfl
 | @cons v k u ks hk hlv hd w ih =>
  intro hvn x B hxm hx hB
  rw [List.length_map] at hk
  obtain ⟨q1,q2⟩:=QL hl hk
  obtain ⟨b1,b2⟩:=EO (l:=l) (last:=last) (by omega:v < last.length) hlv hk
  have hg:=hdue (el l k) (FO _ _ hk)
  have hD0:0 ≤ D:=by omega
  have hks:((k :: ks).length:Int) * D = (ks.length:Int) * D + D:=by
   rw [List.length_cons]; rw [show ((ks.length + 1:Nat):Int) = (ks.length:Int) + 1 by omega,Int.add_mul,Int.one_mul]
  have hpos:0 ≤ (ks.length:Int) * D:=Int.mul_nonneg (by omega) hD0
  have hmv:=aDx (g:=el l k) (x:=x) (B:=B) hg.1 (by omega) hx hd0 hdD (by omega)
  unfold iT
  rw [gH (s':=((el l k).from_,x.set (el l k).due.toNat (el x (el l k).due.toNat + RS (bR (el l k)) d))) ?_]
  ·have hsg:-D ≤ RS (bR (el l k)) d ∧ RS (bR (el l k)) d ≤ D:=by unfold RS; split <;> omega
   have hxd:=hx (el l k).due.toNat
   have:=ih q1 (x.set (el l k).due.toNat (el x (el l k).due.toNat + RS (bR (el l k)) d)) (B + D) (by rw [List.length_set]; exact hxm) (PI hx (by omega) (by omega) hD0) (by omega)
   unfold iT at this
   rw [q2,this,yP,iH bR l k hk]
   rfl
  ·show fV a0 a1 a3 a4 l (best,last) d v x = _
   unfold fV
   dsimp only
   have cv:0 ≤ (v:Int) ∧ (v:Int).toNat < last.length:=⟨by omega,by rw [Int.toNat_natCast]; omega⟩
   have ck:0 ≤ (k:Int) ∧ (k:Int).toNat < l.length:=⟨by omega,by rw [Int.toNat_natCast]; exact hk⟩
   have cg:decide ((k:Int) ≥ 0) = true:=by simp
   simp only [if_pos cv,if_pos ck,b1,b2,Option.bind_some,if_pos cg,hmv]
end
end Go.Proofs.Ytiimibimkpimbaa
set_option linter.unusedVariables false
set_option linter.unusedSimpArgs false
namespace Go.Proofs.Ytiimibimkpimbaa
open Go.RowKit Vm
section
variable {n:Nat} {dues:List aG} {p:List Int}
theorem VP (h:EA n dues) (hp:p.length = n) (hpb:∀ v,v < n→-1000 ≤ el p v ∧ el p v ≤ 1000) {i:Nat} (hi:i < dues.length) {x:List Int} (hl:x.length = dues.length) (hB:sX (mF dues) (nL dues) (pV dues) n dues.length (el x)) (hc:rR (mF dues) (nL dues) (pV dues) dues.length (el x) (el p)) (hpi:el p (nL dues i) = el p (mF dues i) - 1) :
  (∃ x',dT n dues p i x = some (.inl x') ∧ x'.length = dues.length ∧ sX (mF dues) (nL dues) (pV dues) n dues.length (el x') ∧ rR (mF dues) (nL dues) (pV dues) dues.length (el x') (el p) ∧ (∀ j,j < i→el x' j = el x j) ∧ (el (dues.map (·.Sum)) i - el x' i).toNat < (el (dues.map (·.Sum)) i - el x i).toNat) ∨
  ((dT n dues p i x = some (.inr (.inl x)) ∨ dT n dues p i x = some (.inr (.inr x))) ∧ yB (mF dues) (nL dues) (pV dues) n dues.length (el x) i):=by
 have hr:Z2 (pV dues) dues.length (el x):=fun j hj=>⟨hB.lo j hj,hB.hi j hj⟩
 have hst:=KA h hl hr
 have hok:=G2 h (el x)
 have hll:=u4 dues (el x) dues.length
 have hlen:=h.len
 have hnn:=h.nn
 have hdi:=h.each i hi
 have hxi:=hr i hi
 have S:=aDo h (el x) p i
 have hdue:=aDh h (el x)
 have c4:0 ≤ (i:Int) ∧ (i:Int).toNat < x.length:=⟨by omega,by rw [Int.toNat_natCast]; omega⟩
 have e4:x[(i:Int).toNat]? = some (el x i):=by rw [Int.toNat_natCast]; exact CH x i (by omega)
 have eD:=pS dues i hi
 by_cases hfull:el x i < pV dues i
 ·have hfull' : decide (el x i < (el dues i).Sum) = true:=by simpa [pV] using hfull
  have hti:=aGj (dues:=dues) hok (by omega) hp hpb i x
  have hl1:∀ g ∈ ((iM dues (el x) dues.length).filter (AM p i)).map VX,EU n g:=by
   intro g hg
   obtain ⟨g',hg',rfl⟩:=List.mem_map.1 hg
   have:=hok g' (List.mem_filter.1 hg').1
   exact ⟨this.1,this.2.1,by simp [VX]⟩
  have hl2:∀ g ∈ ((iM dues (el x) dues.length).filter (AM p i)).map VX,0 ≤ g.due ∧ g.due < (dues.length:Nat):=by
   intro g hg
   obtain ⟨g',hg',rfl⟩:=List.mem_map.1 hg
   exact hdue g' (List.mem_filter.1 hg').1
  have hfl:((iM dues (el x) dues.length).filter (AM p i)).length ≤ 200:=Nat.le_trans (List.length_filter_le _ _) (by omega)
  have hz:=aIW (n:=n) (dues:=dues) (p:=p) (l:=(iM dues (el x) dues.length).filter (AM p i)) (by omega) i x (el dues i)
  have hl3:(((iM dues (el x) dues.length).filter (AM p i)).map VX).length ≤ 200:=by rw [List.length_map]; exact hfl
  generalize (iM dues (el x) dues.length).filter (AM p i) = l0 at *
  generalize l0.map VX = l at *
  have hpot:Pot gE.src gE.dst gE.cost (l.map bR) fun _=>0:=by
   intro k hk
   obtain ⟨j,b,_,_,_,e⟩:=S.sound k hk
   rw [e]
   show (0:Int) ≤ 0 + 0
   omega
  have htoo:((List.replicate n (0:Int)).set (el dues i).To.toNat 1).length = n:=by rw [List.length_set,List.length_replicate]
  obtain ⟨best,last,q1,q2,q3,T⟩:=YB (n:=n) (by omega) hl1 (by omega) htoo hpot
  have hroot:∀ v,v < n→(decide (el ((List.replicate n (0:Int)).set (el dues i).To.toNat 1) v > 0) = true ↔ v = nL dues i):=by
   intro v hv
   rw [decide_eq_true_eq,eR,List.length_replicate,kC _ _ _ hv]
   unfold nL
   by_cases e:v = (el dues i).To.toNat
   ·rw [if_pos ⟨e,by omega⟩]; simp [e]
   ·rw [if_neg fun q=>e q.1]; simp [e]
  have cT:0 ≤ (el dues i).To ∧ (el dues i).To.toNat < (List.replicate n (0:Int)).length:=⟨by omega,by rw [List.length_replicate]; omega⟩
  have eT:(List.replicate n (0:Int))[(el dues i).To.toNat]? = some 0:=by rw [CH _ _ (by rw [List.length_replicate]; omega),kC _ _ _ (by omega)]
  have cF:0 ≤ (el dues i).From ∧ (el dues i).From.toNat < (best.map mL).length:=⟨by omega,by rw [List.length_map]; omega⟩
  have eF:(best.map mL)[(el dues i).From.toNat]? = some (mL (el best (mF dues i))):=by rw [List.getElem?_map,CH best _ (by omega)]; rfl
  have c0:0 ≤ (n:Int) ∧ (n:Int) ≤ (n:Int) ∧ 8 * (n:Int) ≤ 281474976710656 ∧ (n:Int) ≤ 9223372036854775807:=by omega
  have hgf:(mL (el best (mF dues i))).fine = (el best (mF dues i)).fine:=rfl
  by_cases hf:(el best (mF dues i)).fine = true
  ·obtain ⟨ks,u,w,hu,hRu,hFu,hk⟩:=T.path _ (mF dues i) (Nat.lt_succ_self _) (h.fr i hi) hf
   obtain rfl:=(hroot u hu).1 hRu
   have hkl:∀ k ∈ ks,k < l.length:=fun k hks=>by have:=(hk k hks).1; rwa [List.length_map] at this
   have hk' : ∀ k ∈ ks,k < (l.map bR).length ∧ (fun v=>(el best v).k.toNat) (el (l.map bR) k).src < (fun v=>(el best v).k.toNat) (el (l.map bR) k).dst:=fun k hks=>⟨(hk k hks).1,(hk k hks).2.2.2.1⟩
   obtain ⟨_,hnd⟩:=w.dues S (μ:=fun v=>(el best v).k.toNat) hk'
   have hksl:ks.length ≤ 100:=by
    have:=KJ dues.length _ hnd (fun z hz=>by
     obtain ⟨k,hks,rfl⟩:=List.mem_map.1 hz
     rw [iH bR l k (hkl k hks)]
     have:=hl2 (el l k) (FO _ _ (hkl k hks))
     show (el l k).due.toNat < _
     omega)
    rw [List.length_map] at this
    omega
   have hpos:∀ k ∈ ks,0 < (el l k).most:=fun k hks=>by
    obtain ⟨j,b,_,_,hm,e⟩:=S.sound k (hk k hks).1
    rw [← Y1 (hkl k hks),e]; exact hm
   unfold pV at hfull hxi
   have hmm:=Q2 l ks ((el dues i).Sum - el x i)
   have hmp:=LG l ks ((el dues i).Sum - el x i) (by omega) hpos
   have w1:=U3 hl1 q3 n dues p i x (best.map mL) w (h.fr i hi) ((el dues i).Sum - el x i)
   have hfrE:((mF dues i:Nat):Int) = (el dues i).From:=by unfold mF; omega
   rw [hfrE] at w1
   generalize KZ l ((el dues i).Sum - el x i) ks = d at *
   have w2:=WF hl1 q3 (m:=dues.length) hl2 n dues p i (best.map mL) (d:=d) (D:=1099511627776) (by omega) (by omega) w (h.fr i hi) x 1099511627776 hl (fun j=>by
    by_cases hj:j < dues.length
    ·have:=hr j hj; have:=h.each j hj; unfold pV at *; omega
    ·rw [show el x j = 0 by simp [el,show ¬ j < x.length by omega]]; omega) (by
    have:(ks.length:Int) * 1099511627776 ≤ 100 * 1099511627776:=Int.mul_le_mul_of_nonneg_right (by omega) (by omega)
    omega)
   rw [hfrE] at w2
   obtain ⟨m0,m1,m2,m3,m4,m5⟩:=W4 hl hi S hB hc hpi (μ:=fun v=>(el best v).k.toNat) w hk' (d:=d) (by omega) (fun k hks=>by rw [Y1 (hkl k hks)]; exact hmm.2 k hks) (by unfold pV; omega)
   refine .inl ⟨_,?_,m1,m2,m3,m4,?_⟩
   ·unfold dT
    have wS:IntKind.wrap .i64 ((el dues i).Sum - el x i) = (el dues i).Sum - el x i:=jZ (by omega) (by omega)
    have hml:(yP (l.map bR) d x ks).length = dues.length:=by rw [KH,hl]
    have c5:0 ≤ (i:Int) ∧ (i:Int).toNat < (yP (l.map bR) d x ks).length:=⟨by omega,by rw [Int.toNat_natCast]; omega⟩
    have e5:(yP (l.map bR) d x ks)[(i:Int).toNat]? = some (el (yP (l.map bR) d x ks) i):=by rw [Int.toNat_natCast]; exact CH _ i (by omega)
    have w5:IntKind.wrap .i64 (el (yP (l.map bR) d x ks) i + d) = el (yP (l.map bR) d x ks) i + d:=by rw [m0]; exact jZ (by omega) (by omega)
    have cn:¬ (!(el best (mF dues i)).fine) = true:=by rw [hf]; decide
    simp only [if_pos c4,e4,Option.bind_some,eD,if_pos hfull',hst,hti,if_pos c0,Int.toNat_natCast n,if_pos cT,eT,hz,q1,if_pos cF,eF,hgf,if_neg cn,wS,w1,w2,if_pos c5,e5,w5]
    rw [Int.toNat_natCast]
   ·rw [iH (·.Sum) dues i hi,m5]
    omega
  ·refine .inr ⟨.inr ?_,?_⟩
   ·unfold dT
    have cn:(!(el best (mF dues i)).fine) = true:=by simpa using hf
    simp only [if_pos c4,e4,Option.bind_some,eD,if_pos hfull',hst,hti,if_pos c0,Int.toNat_natCast n,if_pos cT,eT,hz,q1,if_pos cF,eF,hgf,if_pos cn]
   ·refine aAT hi h.fr h.tt hB hc S (F:=fun v=>(el best v).fine) (fun k hk hF=>(T.closed k hk hF).1) (T.root _ (h.tt i hi) ((hroot _ (h.tt i hi)).2 rfl)) (by simpa using hf)
 ·refine .inr ⟨.inl ?_,U7 hi (by omega)⟩
  unfold dT
  have hfull' : ¬ decide (el x i < (el dues i).Sum) = true:=by simpa [pV] using hfull
  rw [if_pos c4,e4,Option.bind_some,eD,Option.bind_some,if_neg hfull']
theorem aIh (h:EA n dues) (hp:p.length = n) (hpb:∀ v,v < n→-1000 ≤ el p v ∧ el p v ≤ 1000) {i:Nat} (hi:i < dues.length) {x:List Int} (hl:x.length = dues.length) (hB:sX (mF dues) (nL dues) (pV dues) n dues.length (el x)) (hc:rR (mF dues) (nL dues) (pV dues) dues.length (el x) (el p)) :
  ∃ x',nP n dues x p i = some x' ∧ x'.length = dues.length ∧ sX (mF dues) (nL dues) (pV dues) n dues.length (el x') ∧ rR (mF dues) (nL dues) (pV dues) dues.length (el x') (el p) ∧ (∀ j,j < i→el x' j = el x j) ∧ yB (mF dues) (nL dues) (pV dues) n dues.length (el x') i:=by
 have hdi:=h.each i hi
 have hnn:=h.nn
 have eD:=pS dues i hi
 have eT:at? p (el dues i).To = some (el p (nL dues i)):=by
  have:=pS p (el dues i).To.toNat (by omega)
  rwa [Int.toNat_of_nonneg hdi.2.1.1] at this
 have eF:at? p (el dues i).From = some (el p (mF dues i)):=by
  have:=pS p (el dues i).From.toNat (by omega)
  rwa [Int.toNat_of_nonneg hdi.1.1] at this
 have bF:=hpb _ (h.fr i hi)
 unfold nP
 rw [eD,Option.bind_some,eT,Option.bind_some,Option.bind_some,eF,Option.bind_some,jZ (by omega) (by omega)]
 by_cases hpi:el p (nL dues i) = el p (mF dues i) - 1
 ·have cn:¬ (el p (nL dues i) != el p (mF dues i) - 1) = true:=by simpa using hpi
  rw [if_neg cn]
  unfold pQ
  obtain ⟨z,h1,h2⟩:=OI (step:=fun (w:List Int)=>dT n dues p i w) (fun w=>w.length = dues.length ∧ sX (mF dues) (nL dues) (pV dues) n dues.length (el w) ∧ rR (mF dues) (nL dues) (pV dues) dues.length (el w) (el p) ∧ ∀ j,j < i→el w j = el x j) (fun w=>(el (dues.map (·.Sum)) i - el w i).toNat)
   (fun z=>∃ x' : List Int,(z = .inl x' ∨ z = .inr x') ∧ x'.length = dues.length ∧ sX (mF dues) (nL dues) (pV dues) n dues.length (el x') ∧ rR (mF dues) (nL dues) (pV dues) dues.length (el x') (el p) ∧ (∀ j,j < i→el x' j = el x j) ∧ yB (mF dues) (nL dues) (pV dues) n dues.length (el x') i) (fun w ⟨i1,i2,i3,i4⟩=>by
    rcases VP h hp hpb hi i1 i2 i3 hpi with ⟨x',s1,s2,s3,s4,s5,s6⟩ | ⟨s1 | s1,s2⟩
    ·exact .inl ⟨x',s1,⟨s2,s3,s4,fun j hj=>by rw [s5 j hj,i4 j hj]⟩,s6⟩
    ·exact .inr ⟨_,s1,w,.inl rfl,i1,i2,i3,i4,s2⟩
    ·exact .inr ⟨_,s1,w,.inr rfl,i1,i2,i3,i4,s2⟩) x ⟨hl,hB,hc,fun _ _=>rfl⟩
  obtain ⟨x',h3,h4⟩:=h2
  refine ⟨x',?_,h4⟩
  rw [h1,Option.bind_some]
  rcases h3 with rfl | rfl <;> rfl
 ·have cn:(el p (nL dues i) != el p (mF dues i) - 1) = true:=by simpa using hpi
  rw [if_pos cn]
  exact ⟨x,rfl,hl,hB,hc,fun _ _=>rfl,UC hi h.fr h.tt hB hc hpi⟩
structure MV (n:Nat) (dues:List aG) (x q:List Int):Prop where
 len:x.length = dues.length
 lenQ:q.length = n
 bald:sX (mF dues) (nL dues) (pV dues) n dues.length (el x)
 cert:rR (mF dues) (nL dues) (pV dues) dues.length (el x) (el q)
 lex:∀ i,i < dues.length→yB (mF dues) (nL dues) (pV dues) n dues.length (el x) i
 least:FS n ((iM dues (el x) dues.length).map bR) (el q)
theorem MV.one {x q x' q' : List Int} (h:EA n dues) (a:MV n dues x q) (b:MV n dues x' q'):x = x' ∧ q = q':=by
 have hs:gU (el x) dues.length = gU (el x') dues.length:=by
  have h1:=ET h.fr h.tt a.bald b.bald a.cert
  have h2:=ET h.fr h.tt b.bald a.bald b.cert
  omega
 have e:=aGd a.bald b.bald hs a.lex b.lex
 have e1:x = x':=yE (by rw [a.len,b.len]) fun i hi=>e i (by rw [← a.len]; exact hi)
 subst e1
 refine ⟨rfl,yE (by rw [a.lenQ,b.lenQ]) fun v hv=>a.least.one b.least (by rw [← a.lenQ]; exact hv)⟩
theorem aJB (h:EA n dues):mY n dues 0 (List.replicate dues.length (0:Int)) = some (dues.map (·.Sum)):=by
 unfold mY
 have hlen:=h.len
 suffices hh:∃ y,eU (fun (w:Int × List Int)=>eK n dues w.1 w.2) (0,List.replicate dues.length (0:Int)) = some y ∧ y = dues.map (·.Sum) by
  obtain ⟨y,h1,h2⟩:=hh
  rw [h2] at h1; exact h1
 refine pD (step:=fun (w:Int × List Int)=>eK n dues w.1 w.2) (fun k (a:List Int)=>((k:Int),a)) dues.length (fun k a=>a.length = dues.length ∧ ∀ j,j < k→el a j = (el dues j).Sum) _ ?_ ?_ _ ⟨List.length_replicate,fun j hj=>absurd hj (Nat.not_lt_zero _)⟩
 ·rintro k a hk ⟨h1,h2⟩
  refine .inl ⟨a.set k (el dues k).Sum,?_,by simp [h1],fun j hj=>?_⟩
  ·show eK n dues k a = _
   unfold eK
   have c0:decide ((k:Int) < (dues.length:Int)) = true:=by simpa using hk
   have ck:0 ≤ (k:Int) ∧ (k:Int).toNat < a.length:=⟨by omega,by rw [Int.toNat_natCast]; omega⟩
   have ek:a[(k:Int).toNat]? = some (el a k):=by rw [Int.toNat_natCast]; exact CH a k (by omega)
   have w3:IntKind.wrap .i64 ((k:Int) + 1) = ((k + 1:Nat):Int):=dB (by omega)
   simp only [if_pos c0,pS dues k hk,Option.bind_some,if_pos ck,ek,w3]
   rw [Int.toNat_natCast]
  ·rw [eR]
   by_cases e:j = k
   ·subst e; rw [if_pos ⟨rfl,by omega⟩]
   ·rw [if_neg fun q=>e q.1]; exact h2 j (by omega)
 ·rintro a ⟨h1,h2⟩
  refine ⟨a,?_,?_⟩
  ·show eK n dues dues.length a = _
   unfold eK
   rw [if_neg (by simp)]
  ·refine yE (by rw [h1,List.length_map]) fun j hj=>?_
   rw [h1] at hj
   rw [h2 j hj,iH (·.Sum) dues j hj]
theorem FS.cert (h:EA n dues) {x:List Int} {q:Nat→Int} (hq:FS n ((iM dues (el x) dues.length).map bR) q):rR (mF dues) (nL dues) (pV dues) dues.length (el x) q :=
 (C8 (GO h (el x)) q).2 hq.pot
theorem aJO (h:EA n dues) (hR:jT n dues = some true):∃ x q,gS n dues = some (x,q,0) ∧ MV n dues x q:=by
 have hlen:=h.len
 have hnn:=h.nn
 unfold gS
 rw [hR,Option.bind_some,if_neg (by decide),if_pos (by omega),Int.toNat_natCast,aJB h,Option.bind_some]
 obtain ⟨x0,a1,a2,a3,p0,a4⟩:=aBq h (sums:=dues.map (·.Sum)) (by rw [List.length_map]) fun i hi=>by rw [iH (·.Sum) dues i hi]; rfl
 obtain ⟨q0,b1,b2,b3⟩:=aDw h a2 (fun i hi=>⟨a3.lo i hi,a3.hi i hi⟩) a4
 have b4:=b3.cert h
 have hpb:∀ v,v < n→-1000 ≤ el q0 v ∧ el q0 v ≤ 1000:=fun v hv=>by have:=b3.le0 v hv; have:=b3.lo v hv; omega
 rw [a1,Option.bind_some,b1,Option.bind_some]
 have hl2:∃ x,mU n dues q0 0 x0 = some x ∧ x.length = dues.length ∧ sX (mF dues) (nL dues) (pV dues) n dues.length (el x) ∧ rR (mF dues) (nL dues) (pV dues) dues.length (el x) (el q0) ∧ ∀ i,i < dues.length→yB (mF dues) (nL dues) (pV dues) n dues.length (el x) i:=by
  unfold mU
  refine pD (step:=fun (w:Int × List Int)=>fC n dues q0 w.1 w.2) (fun k (a:List Int)=>((k:Int),a)) dues.length (fun k a=>a.length = dues.length ∧ sX (mF dues) (nL dues) (pV dues) n dues.length (el a) ∧ rR (mF dues) (nL dues) (pV dues) dues.length (el a) (el q0) ∧ ∀ i,i < k→yB (mF dues) (nL dues) (pV dues) n dues.length (el a) i) _ ?_ ?_ _ ⟨a2,a3,b4,fun j hj=>absurd hj (Nat.not_lt_zero _)⟩
  ·rintro k a hk ⟨i1,i2,i3,i4⟩
   obtain ⟨x',r1,r2,r3,r4,r5,r6⟩:=aIh h b2 hpb hk i1 i2 i3
   refine .inl ⟨x',?_,r2,r3,r4,fun j hj=>?_⟩
   ·show fC n dues q0 k a = _
    unfold fC
    have c0:decide ((k:Int) < (dues.length:Int)) = true:=by simpa using hk
    rw [if_pos c0,r1,Option.bind_some,dB (by omega)]
   ·by_cases e:j = k
    ·subst e; exact r6
    ·exact (i4 j (by omega)).keep (fun j' hj'=>r5 j' (by omega)) (ET h.fr h.tt r3 i2 r4)
  ·rintro a hI
   refine ⟨a,?_,hI⟩
   show fC n dues q0 dues.length a = _
   unfold fC
   rw [if_neg (by simp)]
 obtain ⟨x,d1,d2,d3,d4,d5⟩:=hl2
 obtain ⟨q,f1,f2,f3⟩:=aDw h d2 (fun i hi=>⟨d3.lo i hi,d3.hi i hi⟩) d4
 rw [d1,Option.bind_some,f1,Option.bind_some]
 exact ⟨x,q,rfl,d2,f2,d3,f3.cert h,d5,f3⟩
end
end Go.Proofs.Ytiimibimkpimbaa
set_option linter.unusedVariables false
set_option linter.unusedSimpArgs false
namespace Go.Proofs.Ytiimibimkpimbaa
open Go.RowKit Vm
def qO (n:Int) (d:aG):Prop:=(0 ≤ d.From ∧ d.From < n) ∧ (0 ≤ d.To ∧ d.To < n) ∧ d.From ≠ d.To ∧ 1 ≤ d.Sum ∧ d.Sum ≤ 1099511627776
instance (n:Int) (d:aG):Decidable (qO n d):=by unfold qO; exact inferInstance
def LP (n:Int) (dues:List aG):Bool:=decide (0 ≤ n ∧ n ≤ 40) && decide (dues.length ≤ 100) && E4 (fun i=>decide (qO n (el dues i))) dues.length
theorem MX {n:Int} {dues:List aG}:LP n dues = true ↔ ∃ m:Nat,n = m ∧ EA m dues:=by
 unfold LP
 rw [Bool.and_eq_true,Bool.and_eq_true,decide_eq_true_eq,decide_eq_true_eq,w9]
 constructor
 ·rintro ⟨⟨⟨h1,h2⟩,h3⟩,h4⟩
  refine ⟨n.toNat,by omega,⟨by omega,h3,fun i hi=>?_⟩⟩
  have:=of_decide_eq_true (h4 i hi)
  unfold qO at this
  omega
 ·rintro ⟨m,rfl,h⟩
  refine ⟨⟨⟨by omega,by have:=h.nn; omega⟩,h.len⟩,fun i hi=>decide_eq_true (h.each i hi)⟩
theorem Y3 (n:Int) (dues:List aG):jT n dues = some (LP n dues):=by
 unfold jT LP
 by_cases h1:0 ≤ n ∧ n ≤ 40
 ·have c1:¬ decide (n < 0) = true:=by simp; omega
  have c2:¬ decide (n > 40) = true:=by simp; omega
  rw [if_neg c1,if_neg c2,decide_eq_true h1]
  by_cases h2:dues.length ≤ 100
  ·have c3:¬ decide ((dues.length:Int) > 100) = true:=by simp; omega
   rw [if_neg c3,decide_eq_true h2]
   have key:mW n dues 0 = some (if E4 (fun i=>decide (qO n (el dues i))) dues.length = true then .inl () else .inr ()):=by
    unfold mW
    refine GQ? (step:=fun w=>e9 n dues w) (fun i:Nat=>(i:Int)) dues.length (fun i=>decide (qO n (el dues i))) () ?_ ?_
    ·intro i hi
     show e9 n dues i = _
     unfold e9
     have w3:IntKind.wrap .i64 ((i:Int) + 1) = ((i + 1:Nat):Int):=dB (by omega)
     have c0:decide ((i:Int) < (dues.length:Int)) = true:=by simpa using hi
     simp only [if_pos c0,pS dues i hi,Option.bind_some,w3]
     simp only [decide_eq_true_eq,beq_iff_eq]
     generalize el dues i = d
     by_cases a1:d.From < 0
     ·have hno:¬ qO n d:=by unfold qO; omega
      rw [if_pos a1,if_neg hno]
     rw [if_neg a1]
     by_cases a2:d.From ≥ n
     ·have hno:¬ qO n d:=by unfold qO; omega
      rw [if_pos a2,if_neg hno]
     rw [if_neg a2]
     by_cases a3:d.To < 0
     ·have hno:¬ qO n d:=by unfold qO; omega
      rw [if_pos a3,if_neg hno]
     rw [if_neg a3]
     by_cases a4:d.To ≥ n
     ·have hno:¬ qO n d:=by unfold qO; omega
      rw [if_pos a4,if_neg hno]
     rw [if_neg a4]
     by_cases a5:d.From = d.To
     ·have hno:¬ qO n d:=by unfold qO; omega
      rw [if_pos a5,if_neg hno]
     rw [if_neg a5]
     by_cases a6:d.Sum < 1
     ·have hno:¬ qO n d:=by unfold qO; omega
      rw [if_pos a6,if_neg hno]
     rw [if_neg a6]
     by_cases a7:d.Sum > 1099511627776
     ·have hno:¬ qO n d:=by unfold qO; omega
      rw [if_pos a7,if_neg hno]
     rw [if_neg a7,if_pos (show qO n d by unfold qO; omega)]
    ·show e9 n dues dues.length = _
     unfold e9
     rw [if_neg (by simp)]
   rw [key,Option.bind_some]
   cases E4 (fun i=>decide (qO n (el dues i))) dues.length <;> rfl
  ·have c3:decide ((dues.length:Int) > 100) = true:=by simp; omega
   rw [if_pos c3,decide_eq_false h2]; rfl
 ·rw [decide_eq_false h1]
  by_cases h2:n < 0
  ·rw [if_pos (decide_eq_true h2)]; rfl
  ·have c1:¬ decide (n < 0) = true:=by simpa using h2
   have c2:decide (n > 40) = true:=by simp; omega
   rw [if_neg c1,if_pos c2]; rfl
end Go.Proofs.Ytiimibimkpimbaa
set_option linter.unusedVariables false
set_option linter.unusedSimpArgs false
namespace Go.Proofs.Ytiimibimkpimbaa
open Go.RowKit Vm
section
variable {n:Nat} {dues:List aG} {x q:List Int}
theorem ON (h:EA n dues) {k:Nat} (hk:k ≤ dues.length) (hI:∀ i,i < k→0 ≤ el x i ∧ el x i ≤ pV dues i) (v:Nat):-(100 * 1099511627776) ≤ lN (mF dues) (nL dues) k (el x) v ∧ lN (mF dues) (nL dues) k (el x) v ≤ 100 * 1099511627776:=by
 have hb:=B0 (fr:=mF dues) (tt:=nL dues) (x:=el x) (S:=1099511627776) (by omega) k (fun i hi=>by have:=hI i hi; have:=h.each i (by omega); unfold pV at *; omega) v
 have hlen:=h.len
 have:(k:Int) * 1099511627776 ≤ 100 * 1099511627776:=by omega
 omega
structure aIw (n:Nat) (dues:List aG) (x q:List Int):Prop where
 len:x.length = dues.length
 lenQ:q.length = n
 bald:sX (mF dues) (nL dues) (pV dues) n dues.length (el x)
 rng:∀ v,v < n→-40 ≤ el q v ∧ el q v ≤ 40
 cert:rR (mF dues) (nL dues) (pV dues) dues.length (el x) (el q)
theorem aJQ (h:EA n dues) (hl:x.length = dues.length) (q:List Int):∃ z,lK n dues x q 0 (List.replicate n (0:Int)) = some z ∧ ((z = .inl (BM n dues (el x)) ∧ Z2 (pV dues) dues.length (el x)) ∨ (z = .inr () ∧ ¬ Z2 (pV dues) dues.length (el x))):=by
 unfold lK
 have hlen:=h.len
 have hnn:=h.nn
 refine pD (step:=fun (w:Int × List Int)=>dL n dues x q w.1 w.2) (fun k (a:List Int)=>((k:Int),a)) dues.length (fun k a=>(a.length = n ∧ ∀ v,v < n→el a v = lN (mF dues) (nL dues) k (el x) v) ∧ ∀ i,i < k→0 ≤ el x i ∧ el x i ≤ pV dues i) _ ?_ ?_ _ ⟨⟨List.length_replicate,fun v hv=>by rw [kC _ _ _ hv]; rfl⟩,fun i hi=>absurd hi (Nat.not_lt_zero _)⟩
 ·rintro k a hk ⟨⟨h1,h2⟩,hI⟩
  obtain ⟨⟨f1,f2⟩,⟨t1,t2⟩,hne,hs1,hs2⟩:=h.each k hk
  have c0:decide ((k:Int) < (dues.length:Int)) = true:=by simpa using hk
  have w3:IntKind.wrap .i64 ((k:Int) + 1) = ((k + 1:Nat):Int):=dB (by omega)
  have eX:at? x (k:Int) = some (el x k):=pS x k (by omega)
  have eD:=pS dues k hk
  by_cases hx:0 ≤ el x k ∧ el x k ≤ pV dues k
  ·have hT:(el dues k).To.toNat < n:=by omega
   have hF:(el dues k).From.toNat < n:=by omega
   have bT:=ON h (by omega:k ≤ dues.length) hI (el dues k).To.toNat
   have bF:=ON h (by omega:k ≤ dues.length) hI (el dues k).From.toNat
   have hnf:¬ (el dues k).From.toNat = (el dues k).To.toNat:=by omega
   unfold pV at hx
   refine .inl ⟨(a.set (el dues k).To.toNat (el a (el dues k).To.toNat + el x k)).set (el dues k).From.toNat (el a (el dues k).From.toNat - el x k),?_,⟨by simp [h1],fun v hv=>?_⟩,fun i hi=>?_⟩
   ·show dL n dues x q k a = _
    unfold dL
    have d1:¬ decide (el x k < 0) = true:=by simp; omega
    have d2:¬ decide (el x k > (el dues k).Sum) = true:=by simp; omega
    have cT:0 ≤ (el dues k).To ∧ (el dues k).To.toNat < a.length:=⟨t1,by omega⟩
    have eT:a[(el dues k).To.toNat]? = some (el a (el dues k).To.toNat):=CH a _ (by omega)
    have w1:IntKind.wrap .i64 (el a (el dues k).To.toNat + el x k) = el a (el dues k).To.toNat + el x k:=jZ (by rw [h2 _ hT]; omega) (by rw [h2 _ hT]; omega)
    have cF:0 ≤ (el dues k).From ∧ (el dues k).From.toNat < (a.set (el dues k).To.toNat (el a (el dues k).To.toNat + el x k)).length:=⟨f1,by rw [List.length_set]; omega⟩
    have eF:(a.set (el dues k).To.toNat (el a (el dues k).To.toNat + el x k))[(el dues k).From.toNat]? = some (el a (el dues k).From.toNat):=by
     rw [CH _ _ (by rw [List.length_set]; omega),eR,if_neg fun q=>hnf q.1]
    have w2:IntKind.wrap .i64 (el a (el dues k).From.toNat - el x k) = el a (el dues k).From.toNat - el x k:=jZ (by rw [h2 _ hF]; omega) (by rw [h2 _ hF]; omega)
    simp only [if_pos c0,eD,eX,Option.bind_some,if_neg d1,if_neg d2,if_pos cT,eT,w1,if_pos cF,eF,w2,w3]
   ·rw [HF,eR,List.length_set]
    unfold nL mF
    have h2v:=h2 v hv
    unfold nL mF at h2v
    by_cases e1:v = (el dues k).From.toNat
    ·have e2:¬ (el dues k).To.toNat = v:=by omega
     rw [if_pos ⟨e1,by omega⟩,if_neg e2,if_pos e1.symm,← e1,h2v]; omega
    ·have e1' : ¬ (el dues k).From.toNat = v:=fun q=>e1 q.symm
     have e1'' : ¬ (v = (el dues k).From.toNat ∧ (el dues k).From.toNat < a.length):=fun q=>e1 q.1
     rw [if_neg e1'',if_neg e1',eR]
     by_cases e2:v = (el dues k).To.toNat
     ·rw [if_pos ⟨e2,by omega⟩,if_pos e2.symm,← e2,h2v]; omega
     ·rw [if_neg (fun q=>e2 q.1),if_neg (fun q=>e2 q.symm),h2v]; omega
   ·by_cases e:i = k
    ·subst e; exact hx
    ·exact hI i (by omega)
  ·refine .inr ⟨.inr (),?_,.inr ⟨rfl,fun q=>hx (q k hk)⟩⟩
   show dL n dues x q k a = _
   unfold dL
   rw [if_pos c0,eD,Option.bind_some,eX,Option.bind_some]
   by_cases d1:el x k < 0
   ·rw [if_pos (decide_eq_true d1)]
   ·have d2:decide (el x k > (el dues k).Sum) = true:=by unfold pV at hx; simp; omega
    rw [if_neg (by simpa using d1),Option.bind_some,if_pos d2]
 ·rintro a ⟨⟨h1,h2⟩,hI⟩
  refine ⟨.inl a,?_,.inl ⟨?_,hI⟩⟩
  ·show dL n dues x q dues.length a = _
   unfold dL
   rw [if_neg (by simp)]
  ·rw [show a = BM n dues (el x) from yE (by rw [h1,AC]) fun v hv=>by rw [h1] at hv; rw [h2 v hv,F7 _ hv]]
theorem aAE (h:EA n dues):∃ b,mD n dues x q = some b ∧ (b = true ↔ aIw n dues x q):=by
 have hR:=Y3 n dues
 have hr1:LP n dues = true:=MX.2 ⟨n,rfl,h⟩
 rw [hr1] at hR
 have hnn:=h.nn
 have hlen:=h.len
 unfold mD
 rw [hR,Option.bind_some,if_neg (by decide)]
 by_cases hl:x.length = dues.length
 ·have c1:¬ ((x.length:Int) != (dues.length:Int)) = true:=by simp [hl]
  rw [if_neg c1]
  by_cases hq:q.length = n
  ·have c2:¬ ((q.length:Int) != (n:Int)) = true:=by simp [hq]
   rw [if_neg c2,if_pos (by omega),Int.toNat_natCast]
   obtain ⟨z,h1,h2⟩:=aJQ h hl q
   rw [h1,Option.bind_some]
   rcases h2 with ⟨rfl,hr⟩ | ⟨rfl,h2⟩
   ·rw [Sum.elim_inl]
    have k2:lJ n dues x q (BM n dues (el x)) 0 = some (if E4 (fun v=>decide (lN (mF dues) (nL dues) dues.length (el x) v = 0 ∧ (-40 ≤ el q v ∧ el q v ≤ 40))) n = true then .inl () else .inr ()):=by
     unfold lJ
     refine GQ? (step:=fun w=>eV n dues x q (BM n dues (el x)) w) (fun i:Nat=>(i:Int)) n (fun v=>decide (lN (mF dues) (nL dues) dues.length (el x) v = 0 ∧ (-40 ≤ el q v ∧ el q v ≤ 40))) () ?_ ?_
     ·intro v hv
      show eV n dues x q (BM n dues (el x)) v = _
      unfold eV
      have c0:decide ((v:Int) < (n:Int)) = true:=by simpa using hv
      have ck:0 ≤ (v:Int) ∧ (v:Int).toNat < (BM n dues (el x)).length:=⟨by omega,by rw [Int.toNat_natCast,AC]; omega⟩
      have ek:(BM n dues (el x))[(v:Int).toNat]? = some (lN (mF dues) (nL dues) dues.length (el x) v):=by rw [Int.toNat_natCast,CH _ v (by rw [AC]; exact hv),F7 _ hv]
      have w3:IntKind.wrap .i64 ((v:Int) + 1) = ((v + 1:Nat):Int):=dB (by omega)
      simp only [if_pos c0,if_pos ck,ek,Option.bind_some,pS q v (by omega),w3]
      by_cases a1:lN (mF dues) (nL dues) dues.length (el x) v = 0
      ·have a1' : ¬ (lN (mF dues) (nL dues) dues.length (el x) v != 0) = true:=by simpa using a1
       rw [if_neg a1']
       by_cases a2:el q v < -40
       ·rw [if_pos (decide_eq_true a2),decide_eq_false (fun z=>by omega)]; rfl
       ·have a2' : ¬ decide (el q v < (-40)) = true:=by simpa using a2
        rw [if_neg a2']
        by_cases a3:el q v > 40
        ·rw [if_pos (decide_eq_true a3),decide_eq_false (fun z=>by omega)]; rfl
        ·have a3' : ¬ decide (el q v > 40) = true:=by simpa using a3
         rw [if_neg a3',decide_eq_true (show _ ∧ _ from ⟨a1,by omega,by omega⟩)]; rfl
      ·have a1' : (lN (mF dues) (nL dues) dues.length (el x) v != 0) = true:=by simpa using a1
       rw [if_pos a1',decide_eq_false (fun z=>a1 z.1)]; rfl
     ·show eV n dues x q (BM n dues (el x)) n = _
      unfold eV
      rw [if_neg (by simp)]
    rw [k2,Option.bind_some]
    by_cases ha:E4 (fun v=>decide (lN (mF dues) (nL dues) dues.length (el x) v = 0 ∧ (-40 ≤ el q v ∧ el q v ≤ 40))) n = true
    ·rw [if_pos ha,Sum.elim_inl,KA h hl hr,Option.bind_some]
     have ha':=fun v hv=>of_decide_eq_true (w9.1 ha v hv)
     have S:=GO h (el x)
     have hok:=G2 h (el x)
     have hll:=u4 dues (el x) dues.length
     have hcp:=C8 S (el q)
     generalize iM dues (el x) dues.length = l at *
     have k3:lC q l 0 = some (if E4 (fun k=>decide (el q (el l k).to.toNat ≤ el q (el l k).from_.toNat + (el l k).cost)) l.length = true then .inl () else .inr ()):=by
      unfold lC
      refine GQ? (step:=fun w=>eW q l w) (fun i:Nat=>(i:Int)) l.length (fun k=>decide (el q (el l k).to.toNat ≤ el q (el l k).from_.toNat + (el l k).cost)) () ?_ ?_
      ·intro k hk
       obtain ⟨⟨g1,g2⟩,⟨g3,g4⟩,g5,g6⟩:=hok _ (FO _ _ hk)
       show eW q l k = _
       unfold eW
       have c0:decide ((k:Int) < (l.length:Int)) = true:=by simpa using hk
       have ck:0 ≤ (k:Int) ∧ (k:Int).toNat < l.length:=⟨by omega,by rw [Int.toNat_natCast]; omega⟩
       have ek:l[(k:Int).toNat]? = some (el l k):=by rw [Int.toNat_natCast]; exact CH l k hk
       have w3:IntKind.wrap .i64 ((k:Int) + 1) = ((k + 1:Nat):Int):=dB (by omega)
       have eT:at? q (el l k).to = some (el q (el l k).to.toNat):=by
        have:=pS q (el l k).to.toNat (by omega)
        rwa [Int.toNat_of_nonneg g3] at this
       have eF:at? q (el l k).from_ = some (el q (el l k).from_.toNat):=by
        have:=pS q (el l k).from_.toNat (by omega)
        rwa [Int.toNat_of_nonneg g1] at this
       have bF:=(ha' (el l k).from_.toNat (by omega)).2
       have wF:IntKind.wrap .i64 (el q (el l k).from_.toNat + (el l k).cost) = el q (el l k).from_.toNat + (el l k).cost:=jZ (by omega) (by omega)
       simp only [if_pos c0,if_pos ck,ek,Option.bind_some,eT,eF,wF,w3]
       by_cases a:el q (el l k).to.toNat ≤ el q (el l k).from_.toNat + (el l k).cost
       ·have a' : ¬ decide (el q (el l k).to.toNat > el q (el l k).from_.toNat + (el l k).cost) = true:=by simp; omega
        rw [if_neg a',decide_eq_true a]; rfl
       ·have a' : decide (el q (el l k).to.toNat > el q (el l k).from_.toNat + (el l k).cost) = true:=by simp; omega
        rw [if_pos a',decide_eq_false a]; rfl
      ·show eW q l l.length = _
       unfold eW
       rw [if_neg (by simp)]
     have hpq:E4 (fun k=>decide (el q (el l k).to.toNat ≤ el q (el l k).from_.toNat + (el l k).cost)) l.length = true ↔ rR (mF dues) (nL dues) (pV dues) dues.length (el x) (el q):=by
      rw [hcp,w9]
      constructor
      ·intro hh k hk
       rw [List.length_map] at hk
       rw [iH bR l k hk]
       exact of_decide_eq_true (hh k hk)
      ·intro hh k hk
       have:=hh k (by rw [List.length_map]; exact hk)
       rw [iH bR l k hk] at this
       exact decide_eq_true this
     rw [k3,Option.bind_some]
     refine ⟨E4 (fun k=>decide (el q (el l k).to.toNat ≤ el q (el l k).from_.toNat + (el l k).cost)) l.length,?_,?_⟩
     ·cases E4 (fun k=>decide (el q (el l k).to.toNat ≤ el q (el l k).from_.toNat + (el l k).cost)) l.length <;> rfl
     ·rw [hpq]
      exact ⟨fun c=>⟨hl,hq,⟨fun i hi=>(hr i hi).1,fun i hi=>(hr i hi).2,fun v hv=>(ha' v hv).1⟩,fun v hv=>(ha' v hv).2,c⟩,fun P=>P.cert⟩
    ·rw [if_neg ha]
     refine ⟨false,rfl,fun z=>by (cases z),fun P=>absurd (w9.2 fun v hv=>decide_eq_true ⟨P.bald.net v hv,P.rng v hv⟩) ha⟩
   ·exact ⟨false,rfl,fun z=>by (cases z),fun P=>absurd (fun i hi=>⟨P.bald.lo i hi,P.bald.hi i hi⟩) h2⟩
  ·have c2:((q.length:Int) != (n:Int)) = true:=by simp; omega
   rw [if_pos c2]
   exact ⟨false,rfl,fun z=>by (cases z),fun P=>absurd P.lenQ hq⟩
 ·have c1:((x.length:Int) != (dues.length:Int)) = true:=by simp; omega
  rw [if_pos c1]
  exact ⟨false,rfl,fun z=>by (cases z),fun P=>absurd P.len hl⟩
theorem MV.prov (h:EA n dues) (b:MV n dues x q):aIw n dues x q:=⟨b.len,b.lenQ,b.bald,fun v hv=>by have:=b.least.le0 v hv; have:=b.least.lo v hv; have:=h.nn; omega,b.cert⟩
end
end Go.Proofs.Ytiimibimkpimbaa
