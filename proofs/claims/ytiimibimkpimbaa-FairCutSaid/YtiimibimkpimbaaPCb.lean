/- Clearing: balancing ends balanced, and best. Clearing: the potentials are the least costs of steps. Clearing: raising one due. Clearing: what Clear returns. Clearing: what Right, Total, Balanced and Proves say. Clearing: what Balanced and Proves say. -/
import Derived.Test.YtiimibimkpimbaaPCa
set_option linter.unusedVariables false
set_option linter.unusedSimpArgs false
namespace Go.Proofs.Ytiimibimkpimbaa
open Go.RowKit Vm
section
variable {n:Nat} {dues:List aM} {sums:List Int}
def VG (n:Nat) (dues:List aM) (x:Nat→Int):Int:=g9 (fun v=>if 0 < o0 (oV dues) (pB dues) dues.length x v then o0 (oV dues) (pB dues) dues.length x v else 0) n
theorem QU (x:Nat→Int):0 ≤ VG n dues x:=IZ fun v _=>by split <;> omega
theorem aAQ {x y:Nat→Int} {u v:Nat} {d:Int} (hu:u < n) (hd:0 < d) (h1:d ≤ o0 (oV dues) (pB dues) dues.length x u) (h2:d ≤ -o0 (oV dues) (pB dues) dues.length x v)
  (h:∀ z,o0 (oV dues) (pB dues) dues.length y z = o0 (oV dues) (pB dues) dues.length x z + (if v = z then d else 0) - (if u = z then d else 0)):VG n dues y = VG n dues x - d:=by
 have hne:¬ v = u:=fun e=>by subst e; omega
 unfold VG
 rw [kF (h:=fun z=>(if 0 < o0 (oV dues) (pB dues) dues.length x z then o0 (oV dues) (pB dues) dues.length x z else 0) - (if z = u then d else 0)) fun z _=>?_,wM,FY hu]
 rw [h z]
 by_cases e1:z = u
 ·subst e1
  rw [if_neg hne,if_pos rfl]
  split <;> split <;> omega
 ·rw [if_neg (fun q:u = z=>e1 q.symm),if_neg e1]
  by_cases e2:v = z
  ·subst e2
   rw [if_pos rfl]
   split <;> split <;> omega
  ·rw [if_neg e2]
   simp
theorem Y3 {l:List aB} {k:Nat} (hk:k < l.length):(el (l.map bS) k).most = (el l k).most:=by rw [i9 bS l k hk]; rfl
theorem aCt (h:FB n dues) (x:Nat→Int):∀ g ∈ iV dues x dues.length,0 ≤ g.due ∧ g.due < (dues.length:Nat):=by
 intro g hg
 obtain ⟨i,b,hi,rfl,_⟩:=uE.1 hg
 simp only [CZ]
 omega
theorem QK (h:FB n dues) {too x:List Int} (hto:too = LV n dues (el x)) (hl:x.length = dues.length) (hr:InR (rC dues) dues.length (el x)) {p:Nat→Int} (hp:rD (oV dues) (pB dues) (rC dues) dues.length (el x) p) :
  (∃ too' x',eJ n dues too x = some (.inl (too',x')) ∧ too' = LV n dues (el x') ∧ x'.length = dues.length ∧ InR (rC dues) dues.length (el x') ∧ (∃ p',rD (oV dues) (pB dues) (rC dues) dues.length (el x') p') ∧ (VG n dues (el x')).toNat < (VG n dues (el x)).toNat) ∨
  (eJ n dues too x = some (.inr x) ∧ sI (oV dues) (pB dues) (rC dues) n dues.length (el x)):=by
 have S:=LK h (el x)
 have hpot:=(FX S p).1 hp
 have hlen:=h.len
 have hnn:=h.nn
 have hst:=QE h hl hr
 have hok:=LO h (el x)
 have hll:=w6 dues (el x) dues.length
 have htl:too.length = n:=by rw [hto,K4]
 have hte:∀ v,v < n→el too v = o0 (oV dues) (pB dues) dues.length (el x) v:=fun v hv=>by rw [hto,P4 _ hv]
 have hdue:=aCt h (el x)
 generalize iV dues (el x) dues.length = l at *
 obtain ⟨best,last,q1,q2,q3,T⟩:=YH (n:=n) (by omega) hok (by omega) htl hpot
 obtain ⟨e,r1,r2⟩:=aKY (sums:=x) (dues:=dues) (by omega:n ≤ 1000) htl q2 last l
 rcases r2 with ⟨rfl,r2⟩ | ⟨v,rfl,hv,hv1,hv2⟩
 ·refine .inr ⟨?_,?_⟩
  ·unfold eJ
   rw [hst,Option.bind_some,q1,Option.bind_some,r1,Option.bind_some,if_pos (by decide)]
  ·refine T1 (F:=fun v=>(el best v).fine) (q:=fun v=>(el best v).c) (μ:=fun v=>(el best v).k.toNat) (last:=last) S h.fr h.tt hr ⟨fun w hw hF=>?_,T.closed,fun w hw hR=>T.root w hw ?_⟩ fun w hw hneg=>r2 w hw (by rw [hte w hw]; exact hneg)
   ·rcases T.tree w hw hF with ⟨t1,t2⟩ | t
    ·exact .inl ⟨t1,by have:=of_decide_eq_true t2; rw [hte w hw] at this; exact this⟩
    ·exact .inr t
   ·rw [hte w hw]; exact decide_eq_true hR
 ·obtain ⟨ks,u,w,hu,hRu,hFu,hk⟩:=T.path _ v (Nat.lt_succ_self _) hv hv2
  have hu1:=of_decide_eq_true hRu
  have hkl:∀ k ∈ ks,k < l.length:=fun k hks=>by have:=(hk k hks).1; rwa [List.length_map] at this
  obtain ⟨_,hnd⟩:=w.dues S (μ:=fun v=>(el best v).k.toNat) fun k hks=>⟨(hk k hks).1,(hk k hks).2.2.2.1⟩
  have hksl:ks.length ≤ 100:=by
   have:=JI dues.length _ hnd (fun z hz=>by
    obtain ⟨k,hks,rfl⟩:=List.mem_map.1 hz
    rw [i9 bS l k (hkl k hks)]
    have:=hdue (el l k) (by rw [show el l k = l[k]'(hkl k hks) from by simp [el,hkl k hks]]; exact List.getElem_mem _)
    show (el l k).due.toNat < _
    omega)
   rw [List.length_map] at this
   omega
  have hpos:∀ k ∈ ks,0 < (el l k).most:=fun k hks=>by
   obtain ⟨i,b,_,_,hm,e⟩:=S.sound k (hk k hks).1
   rw [← Y3 (hkl k hks),e]; exact hm
  have hbnd:∀ z,z < n→-(100 * 1099511627776) ≤ el too z ∧ el too z ≤ 100 * 1099511627776:=fun z hz=>by
   rw [hte z hz]
   have:=EX (fr:=oV dues) (tt:=pB dues) (x:=el x) (S:=1099511627776) (by omega) dues.length (fun i hi=>by have:=hr i hi; have:=h.each i hi; unfold rC at *; omega) z
   have:(dues.length:Int) * 1099511627776 ≤ 100 * 1099511627776:=by omega
   omega
  have bv:=hbnd v hv
  have bu:=hbnd u hu
  have hneg0:IntKind.wrap .i64 (0 - el too v) = -el too v:=by rw [kY (by omega) (by omega)]; omega
  have hmm:=P7 l ks (-el too v)
  have hmp:=J0 l ks (-el too v) (by omega) hpos
  have w1:=ZE hok q3 n dues too x (best.map mP) v w hv (-el too v)
  generalize hmv:LP l (-el too v) ks = mm at *
  have hd:0 < (if el too u < mm then el too u else mm) ∧ (if el too u < mm then el too u else mm) ≤ mm ∧ (if el too u < mm then el too u else mm) ≤ el too u:=by split <;> omega
  have w2:=aAB hok q3 (m:=dues.length) hdue n dues too (best.map mP) v (mm,(u:Int)) (el too u) (D:=100 * 1099511627776) (by omega) (by omega) w hv x 1099511627776 hl (fun i=>by
   by_cases hi:i < dues.length
   ·have:=hr i hi; have:=h.each i hi; unfold rC at *; omega
   ·rw [show el x i = 0 by simp [el,show ¬ i < x.length by omega]]; omega) (by
   have:(ks.length:Int) * (100 * 1099511627776) ≤ 100 * (100 * 1099511627776):=Int.mul_le_mul_of_nonneg_right (by omega) (by omega)
   omega)
  dsimp only at w2
  generalize hde:(if el too u < mm then el too u else mm) = d at *
  obtain ⟨m1,m2,m3,m4⟩:=PR hl S h.fr h.tt hr hp (F:=fun v=>(el best v).fine) T w (fun k hks=>⟨(hk k hks).1,(hk k hks).2.1,(hk k hks).2.2.1,(hk k hks).2.2.2.1,(hk k hks).2.2.2.2.2⟩) (d:=d) (by omega) (fun k hks=>by rw [Y3 (hkl k hks)]; have:=hmm.2 k hks; omega)
  have hne:¬ v = u:=fun e=>by subst e; omega
  refine .inl ⟨LV n dues (el (yD (l.map bS) d x ks)),yD (l.map bS) d x ks,?_,rfl,m1,m2,m3,?_⟩
  ·unfold eJ
   have cn:¬ decide ((v:Int) < 0) = true:=by simp
   have cv:0 ≤ (v:Int) ∧ (v:Int).toNat < too.length:=⟨by omega,by rw [Int.toNat_natCast]; omega⟩
   have cu:0 ≤ (u:Int) ∧ (u:Int).toNat < too.length:=⟨by omega,by rw [Int.toNat_natCast]; omega⟩
   have ev:too[(v:Int).toNat]? = some (el too v):=by rw [Int.toNat_natCast]; exact D7 too v (by omega)
   have eu:too[(u:Int).toNat]? = some (el too u):=by rw [Int.toNat_natCast]; exact D7 too u (by omega)
   have wu:IntKind.wrap .i64 (el too u - d) = el too u - d:=kY (by omega) (by omega)
   have wv:IntKind.wrap .i64 (el too v + d) = el too v + d:=kY (by omega) (by omega)
   have cv2:0 ≤ (v:Int) ∧ (v:Int).toNat < (too.set (u:Int).toNat (el too u - d)).length:=⟨by omega,by rw [List.length_set,Int.toNat_natCast]; omega⟩
   have ev2:(too.set (u:Int).toNat (el too u - d))[(v:Int).toNat]? = some (el too v):=by
    rw [Int.toNat_natCast,Int.toNat_natCast,D7 _ _ (by rw [List.length_set]; omega),fP,if_neg fun q=>hne q.1]
   simp only [hst,q1,r1,Option.bind_some,if_neg cn,if_pos cv,ev,hneg0,w1,if_pos cu,eu,hde,w2,wu,if_pos cv2,ev2,wv]
   congr 3
   refine AG (by rw [List.length_set,List.length_set,htl,K4]) fun z hz=>?_
   rw [List.length_set,List.length_set,htl] at hz
   rw [P4 _ hz,m4 z,fP,fP,Int.toNat_natCast,Int.toNat_natCast,List.length_set,htl,← hte z hz]
   by_cases e1:z = v
   ·subst e1
    have hzu:¬ u = z:=fun q=>hne q.symm
    rw [if_pos ⟨rfl,hz⟩,if_pos rfl,if_neg hzu]; omega
   ·have hvz:¬ v = z:=fun q=>e1 q.symm
    have hc1:¬ (z = v ∧ v < n):=fun q=>e1 q.1
    by_cases e2:z = u
    ·subst e2
     rw [if_neg hc1,if_neg hvz,if_pos ⟨rfl,hz⟩,if_pos rfl]; omega
    ·have huz:¬ u = z:=fun q=>e2 q.symm
     have hc2:¬ (z = u ∧ u < n):=fun q=>e2 q.1
     rw [if_neg hc1,if_neg hvz,if_neg hc2,if_neg huz]; omega
  ·have h1:=aAQ (dues:=dues) (x:=el x) (y:=el (yD (l.map bS) d x ks)) hu (by omega:0 < d) (by rw [← hte u hu]; omega) (by rw [← hte v hv]; omega) m4
   have h2:=QU (n:=n) (dues:=dues) (el (yD (l.map bS) d x ks))
   omega
theorem aBh (h:FB n dues) (hl:sums.length = dues.length) (hfull:∀ i,i < dues.length→el sums i = rC dues i):∃ x,kQ n dues sums = some x ∧ x.length = dues.length ∧ sI (oV dues) (pB dues) (rC dues) n dues.length (el x) ∧ ∃ p,rD (oV dues) (pB dues) (rC dues) dues.length (el x) p:=by
 have hr:InR (rC dues) dues.length (el sums):=fun i hi=>by have:=h.each i hi; have:=hfull i hi; unfold rC at *; omega
 have hnn:=h.nn
 have hc:rD (oV dues) (pB dues) (rC dues) dues.length (el sums) fun _=>0:=fun i hi=>⟨fun c=>by rw [hfull i hi] at c; omega,fun _=>by show (0:Int) ≤ 0 + 1; omega⟩
 unfold kQ
 rw [if_pos (by omega),Int.toNat_natCast,aI8 h hl hr,Option.bind_some]
 unfold nS
 obtain ⟨x,h1,h2⟩:=NI (step:=fun (w:List Int × List Int)=>eJ n dues w.1 w.2) (fun w=>w.1 = LV n dues (el w.2) ∧ w.2.length = dues.length ∧ InR (rC dues) dues.length (el w.2) ∧ ∃ p,rD (oV dues) (pB dues) (rC dues) dues.length (el w.2) p) (fun w=>(VG n dues (el w.2)).toNat)
  (fun x=>x.length = dues.length ∧ sI (oV dues) (pB dues) (rC dues) n dues.length (el x) ∧ ∃ p,rD (oV dues) (pB dues) (rC dues) dues.length (el x) p) (fun w ⟨i1,i2,i3,p,i4⟩=>by
   rcases QK h i1 i2 i3 i4 with ⟨too',x',s1,s2,s3,s4,s5,s6⟩ | ⟨s1,s2⟩
   ·exact .inl ⟨(too',x'),s1,⟨s2,s3,s4,s5⟩,s6⟩
   ·exact .inr ⟨_,s1,i2,s2,p,i4⟩) (LV n dues (el sums),sums) ⟨rfl,hl,hr,_,hc⟩
 rw [h1]
 exact ⟨x,rfl,h2⟩
end
end Go.Proofs.Ytiimibimkpimbaa
set_option linter.unusedVariables false
set_option linter.unusedSimpArgs false
namespace Go.Proofs.Ytiimibimkpimbaa
open Go.RowKit Vm
def nT (a b:Int):Bool:=decide (a < b)
def vK (a:Int) (s:gE):Int:=a + s.cost
def ZW (a:Int) (c:Int) (k:Nat):Int:=a + c
theorem JW (a b:Int):nT a b = false ↔ b ≤ a:=by simp [nT]
theorem aLB:aCv nT vK where
 irr a:=by simp [nT]
 asym a b h:=by simp [nT] at *; omega
 neg a b c h1 h2:=by simp [nT] at *; omega
 mono a b s h:=by simp [nT,vK] at *; omega
theorem aKC (cst:gE→Int) (hc:∀ s,cst s = s.cost):aAy nT vK cst ZW where
 zero a:=by simp [ZW]
 step a c k s:=by
  rw [hc]
  simp only [ZW,vK]
  omega
 le a c k c' k' h:=by
  unfold CD
  rw [JW]
  simp only [ZW]
  omega
def LB (n:Nat) (B:Int) (best:List Int):Prop:=∀ v,v < n→-B ≤ el best v ∧ el best v ≤ B
theorem FK {n:Nat} {l:List aB} {best:List Int} {last:List Int} {B:Int} (hl:∀ g ∈ l,ED n g) (hb:best.length = n) (hla:last.length = n) (h:LB n B best) (hB:0 ≤ B):∀ k,k ≤ l.length →
  (((List.range k).foldl (iI nT vK gE.src gE.dst (l.map bS)) (best,last,false)).1.length = n ∧ ((List.range k).foldl (iI nT vK gE.src gE.dst (l.map bS)) (best,last,false)).2.1.length = n ∧ LB n (B + k) ((List.range k).foldl (iI nT vK gE.src gE.dst (l.map bS)) (best,last,false)).1):=by
 intro k
 induction k with
 | zero=>intro _; exact ⟨hb,hla,by simpa using h⟩
 | succ k ih =>
  intro hk
  obtain ⟨h1,h2,h3⟩:=ih (by omega)
  rw [List.range_succ,List.foldl_append,List.foldl_cons,List.foldl_nil]
  generalize (List.range k).foldl (iI nT vK gE.src gE.dst (l.map bS)) (best,last,false) = z at *
  have hg:=hl (el l k) (by rw [show el l k = l[k] from by simp [el,show k < l.length by omega]]; exact List.getElem_mem _)
  obtain ⟨⟨g1,g2⟩,⟨g3,g4⟩,g5,g6⟩:=hg
  have hmono:LB n (B + (k + 1:Nat)) z.1:=fun v hv=>by have:=h3 v hv; omega
  unfold iI
  rw [i9 bS l k (by omega)]
  split
  ·refine ⟨by simp [h1],by simp [h2],fun v hv=>?_⟩
   dsimp only
   rw [fP]
   split
   ·have:=h3 (el l k).from_.toNat (by omega)
    simp only [vK,bS,gE.src]
    omega
   ·exact hmono v hv
  ·exact ⟨h1,h2,hmono⟩
theorem aAY (a b:Int):pC a b = some (nT a b):=by
 unfold pC oT
 simp [nT]
theorem WF {n:Nat} {l:List aB} {best:List Int} {last:List Int} {B:Int} (hl:∀ g ∈ l,ED n g) (hb:best.length = n) (hla:last.length = n) (h:LB n B best) (hB:0 ≤ B) (hBl:B + l.length ≤ 4611686018427387904) :
  iY l false 0 best last = some ((oW nT vK gE.src gE.dst (l.map bS) best last).2.2,(oW nT vK gE.src gE.dst (l.map bS) best last).1,(oW nT vK gE.src gE.dst (l.map bS) best last).2.1):=by
 unfold iY oW
 rw [List.length_map]
 suffices hh:∃ x,fE (fun (w:Bool × Int × List Int × List Int)=>eB l w.1 w.2.1 w.2.2.1 w.2.2.2) (false,0,best,last) = some x ∧ x = (((List.range l.length).foldl (iI nT vK gE.src gE.dst (l.map bS)) (best,last,false)).2.2,((List.range l.length).foldl (iI nT vK gE.src gE.dst (l.map bS)) (best,last,false)).1,((List.range l.length).foldl (iI nT vK gE.src gE.dst (l.map bS)) (best,last,false)).2.1) by
  obtain ⟨x,h1,h2⟩:=hh
  rw [h2] at h1; exact h1
 refine qI (step:=fun (w:Bool × Int × List Int × List Int)=>eB l w.1 w.2.1 w.2.2.1 w.2.2.2) (fun k (a:List Int × List Int × Bool)=>(a.2.2,(k:Int),a.1,a.2.1)) l.length
  (fun k a=>a = (List.range k).foldl (iI nT vK gE.src gE.dst (l.map bS)) (best,last,false)) (fun x=>x = (((List.range l.length).foldl (iI nT vK gE.src gE.dst (l.map bS)) (best,last,false)).2.2,((List.range l.length).foldl (iI nT vK gE.src gE.dst (l.map bS)) (best,last,false)).1,((List.range l.length).foldl (iI nT vK gE.src gE.dst (l.map bS)) (best,last,false)).2.1)) ?_ ?_ (best,last,false) rfl
 ·rintro k a hk rfl
  refine .inl ?_
  obtain ⟨q1,q2,q3⟩:=FK hl hb hla h hB k (by omega)
  rw [List.range_succ,List.foldl_append,List.foldl_cons,List.foldl_nil]
  generalize (List.range k).foldl (iI nT vK gE.src gE.dst (l.map bS)) (best,last,false) = z at *
  have hg:=hl (el l k) (by rw [show el l k = l[k] from by simp [el,hk]]; exact List.getElem_mem _)
  obtain ⟨⟨g1,g2⟩,⟨g3,g4⟩,g5,g6⟩:=hg
  refine ⟨_,?_,rfl⟩
  unfold eB
  have e1:z.1[(el l k).from_.toNat]? = some (el z.1 (el l k).from_.toNat):=D7 z.1 _ (by omega)
  have e2:z.1[(el l k).to.toNat]? = some (el z.1 (el l k).to.toNat):=D7 z.1 _ (by omega)
  have b:=q3 (el l k).from_.toNat (by omega)
  have c0:decide ((k:Int) < (l.length:Int)) = true:=by simpa using hk
  have ck:0 ≤ (k:Int) ∧ (k:Int).toNat < l.length:=⟨by omega,by rw [Int.toNat_natCast]; omega⟩
  have ek:l[(k:Int).toNat]? = some (el l k):=by rw [Int.toNat_natCast]; exact D7 l k hk
  have cF:0 ≤ (el l k).from_ ∧ (el l k).from_.toNat < z.1.length:=⟨g1,by omega⟩
  have cT:0 ≤ (el l k).to ∧ (el l k).to.toNat < z.1.length:=⟨g3,by omega⟩
  have cL:0 ≤ (el l k).to ∧ (el l k).to.toNat < z.2.1.length:=⟨g3,by omega⟩
  have ho:iE (el z.1 (el l k).from_.toNat) (el l k) = some (vK (el z.1 (el l k).from_.toNat) (bS (el l k))):=by
   unfold iE
   rw [kY (by omega) (by omega)]
   rfl
  have w3:IntKind.wrap .i64 ((k:Int) + 1) = ((k + 1:Nat):Int):=eV (by omega)
  have eL:z.2.1[(el l k).to.toNat]? = some (el z.2.1 (el l k).to.toNat):=D7 z.2.1 _ (by omega)
  simp only [if_pos c0,if_pos ck,ek,Option.bind_some,if_pos cF,e1,ho,if_pos cT,e2,aAY,w3,if_pos cL,eL]
  unfold iI
  rw [i9 bS l k hk]
  have e3:gE.src (bS (el l k)) = (el l k).from_.toNat:=rfl
  have e4:gE.dst (bS (el l k)) = (el l k).to.toNat:=rfl
  rw [e3,e4]
  split
  ·rfl
  ·rfl
 ·rintro a rfl
  refine ⟨_,?_,rfl⟩
  unfold eB
  rw [if_neg (by simp)]
theorem OV {n:Nat} {l:List aB} (hl:∀ g ∈ l,ED n g):∀ (f:Nat) (best:List Int) (last:List Int) (B:Int) (b:List Int) (la:List Int),best.length = n→last.length = n→LB n B best→0 ≤ B→B + (f * l.length:Nat) ≤ 4611686018427387904 →
  MX nT vK gE.src gE.dst (l.map bS) f best last = some (b,la)→i5 l true best last = some (b,la)
 | 0,best,last,B,b,la,_,_,_,_,_,h=>by cases h
 | f + 1,best,last,B,b,la,hb,hla,hB,hB0,hBf,h=>by
  have hmul:(f + 1) * l.length = f * l.length + l.length:=Nat.succ_mul f l.length
  have hr:=WF hl hb hla hB hB0 (by omega)
  obtain ⟨q1,q2,q3⟩:=FK hl hb hla hB hB0 l.length (Nat.le_refl _)
  have e0:oW nT vK gE.src gE.dst (l.map bS) best last = (List.range l.length).foldl (iI nT vK gE.src gE.dst (l.map bS)) (best,last,false):=by unfold oW; rw [List.length_map]
  rw [← e0] at q1 q2 q3
  simp only [MX] at h
  generalize oW nT vK gE.src gE.dst (l.map bS) best last = z at *
  unfold i5
  rw [gP (s':=(z.2.2,z.1,z.2.1)) (by unfold gB; rw [if_pos rfl,hr]; rfl)]
  split at h
  ·rename_i hc
   rw [hc]
   exact OV hl f z.1 z.2.1 (B + l.length) b la q1 q2 q3 (by omega) (by omega) h
  ·rename_i hc
   cases h
   exact fT (by unfold gB; exact if_neg hc)
theorem I9.cost_ge {l:List gE} (hc:∀ i,i < l.length→-1 ≤ (el l i).cost) {u k v:Nat} {c:Int} (w:I9 gE.src gE.dst gE.cost l u k c v):-(k:Int) ≤ c:=by
 induction w with
 | zero=>omega
 | step i hi _ ih=>have:=hc i hi; omega
structure ES (n:Nat) (l:List gE) (q:Nat→Int):Prop where
 le0:∀ v,v < n→q v ≤ 0
 lo:∀ v,v < n→-(n:Int) + 1 ≤ q v
 pot:Pot gE.src gE.dst gE.cost l q
 wk:∀ v,v < n→∃ u k,u < n ∧ I9 gE.src gE.dst gE.cost l u k (q v) v
 le:∀ u k c v,u < n→I9 gE.src gE.dst gE.cost l u k c v→q v ≤ c
theorem ES.one {n:Nat} {l:List gE} {q q' : Nat→Int} (h:ES n l q) (h' : ES n l q') {v:Nat} (hv:v < n):q v = q' v:=by
 obtain ⟨u,k,hu,w⟩:=h.wk v hv
 obtain ⟨u',k',hu',w'⟩:=h'.wk v hv
 have a:=h.le u' k' _ v hu' w'
 have b:=h'.le u k _ v hu w
 omega
theorem aDp {n:Nat} {dues:List aM} {x:List Int} (h:FB n dues) (hl:x.length = dues.length) (hr:InR (rC dues) dues.length (el x)) {p:Nat→Int} (hp:rD (oV dues) (pB dues) (rC dues) dues.length (el x) p) :
  ∃ q,fX n dues x = some q ∧ q.length = n ∧ ES n ((iV dues (el x) dues.length).map bS) (el q):=by
 have S:=LK h (el x)
 have hpot:=(FX S p).1 hp
 have hlen:=h.len
 have hnn:=h.nn
 have hst:=QE h hl hr
 have hok:=LO h (el x)
 have hll:=w6 dues (el x) dues.length
 have hs:=S.in_ h.fr h.tt
 generalize iV dues (el x) dues.length = l at *
 have hi:∀ v,v < n→el (List.replicate n (0:Int)) v = 0:=fun v hv=>mA _ _ _ hv
 obtain ⟨q,la,h1,h2,h3,h4⟩:=YQ aLB (aKC gE.cost fun _=>rfl) hpot (init:=List.replicate n (0:Int)) (by rw [List.length_replicate]; exact hs) (fuel:=n + 1) (by rw [List.length_replicate]; exact Nat.le_refl _)
 rw [List.length_replicate] at h1 h4
 have hmul:(n + 1) * l.length ≤ 1001 * 100000:=Nat.mul_le_mul (by omega) (by omega)
 have hq:∀ v,v < n→∃ u k,u < n ∧ I9 gE.src gE.dst gE.cost (l.map bS) u k (el q v) v:=by
  intro v hv
  obtain ⟨k,w⟩:=h2.wk v (by rw [List.length_replicate]; exact hv)
  obtain ⟨u,c,hu,hw,e⟩:=aH6 (aKC gE.cost fun _=>rfl) w
  rw [List.length_replicate] at hu
  rw [hi u hu] at e
  have e:el q v = c:=by simpa [ZW] using e
  rw [e]
  exact ⟨u,k,hu,hw⟩
 have hle:∀ u k c v,u < n→I9 gE.src gE.dst gE.cost (l.map bS) u k c v→el q v ≤ c:=by
  intro u k c v hu w
  have:=h4 u k c v hu w
  unfold CD at this
  rw [JW,hi u hu] at this
  simpa [ZW] using this
 refine ⟨q,?_,by rw [h2.len,List.length_replicate],⟨fun v hv=>hle v 0 0 v hv .zero,fun v hv=>?_,fun i hi'=>?_,hq,hle⟩⟩
 ·unfold fX
  rw [if_pos (by omega),hst,Option.bind_some,Int.toNat_natCast,List.length_replicate,aH0 (by omega),Option.bind_some,OV hok (n + 1) _ _ 0 q la List.length_replicate List.length_replicate (fun v hv=>by rw [hi v hv]; omega) (Int.le_refl _) (by omega) h1]
  rfl
 ·obtain ⟨u,k,hu,w⟩:=hq v hv
  obtain ⟨j,c',hj,w',hc⟩:=w.short hpot hs hu
  have:=hle u j c' v hu w'
  have hge:=w'.cost_ge fun i hi'=>by
   rw [List.length_map] at hi'
   rw [i9 bS l i hi']
   exact (hok (el l i) (by rw [show el l i = l[i] from by simp [el,hi']]; exact List.getElem_mem _)).2.2.1
  omega
 ·have:=h3 i hi'
  unfold CD at this
  rw [JW] at this
  exact this
end Go.Proofs.Ytiimibimkpimbaa
set_option linter.unusedVariables false
set_option linter.unusedSimpArgs false
namespace Go.Proofs.Ytiimibimkpimbaa
open Go.RowKit Vm
theorem aFR {α:Type} [Inhabited α] (l:List α) {k:Nat} (h:k < l.length):l.take (k + 1) = l.take k ++ [el l k]:=by
 rw [List.take_add_one,D7 l k h]; rfl
def zQ (p:List Int) (i:Nat) (g:aB):Bool:=decide ((i:Int) < g.due) && decide (el p g.to.toNat = el p g.from_.toNat + g.cost)
def UW (g:aB):aB:=aB.mk g.due g.from_ g.to 0 g.most g.back
section
variable {n:Nat} {dues:List aM} {p:List Int} {l:List aB}
theorem aHf (hl:∀ g ∈ l,ED n g) (hll:l.length ≤ 100000) (hp:p.length = n) (hpb:∀ v,v < n→-1000 ≤ el p v ∧ el p v ≤ 1000) (i:Nat) (x:List Int):mG n dues p i x l 0 [] = some (l.filter (zQ p i)):=by
 unfold mG
 suffices hh:∃ y,fE (fun (w:Int × List aB)=>eK n dues p i x l w.1 w.2) (0,[]) = some y ∧ y = l.filter (zQ p i) by
  obtain ⟨y,h1,h2⟩:=hh
  rw [h2] at h1; exact h1
 refine qI (step:=fun (w:Int × List aB)=>eK n dues p i x l w.1 w.2) (fun k (a:List aB)=>((k:Int),a)) l.length (fun k a=>a = (l.take k).filter (zQ p i)) _ ?_ ?_ _ (by simp)
 ·rintro k a hk rfl
  refine .inl ⟨_,?_,rfl⟩
  have hlen:((l.take k).filter (zQ p i)).length ≤ 100000:=Nat.le_trans (List.length_filter_le _ _) (by rw [List.length_take]; omega)
  obtain ⟨⟨g1,g2⟩,⟨g3,g4⟩,g5,g6⟩:=hl _ (GL _ _ hk)
  rw [aFR l hk,List.filter_append]
  generalize (l.take k).filter (zQ p i) = a at *
  show eK n dues p i x l k a = _
  unfold eK
  have c0:decide ((k:Int) < (l.length:Int)) = true:=by simpa using hk
  have ck:0 ≤ (k:Int) ∧ (k:Int).toNat < l.length:=⟨by omega,by rw [Int.toNat_natCast]; omega⟩
  have ek:l[(k:Int).toNat]? = some (el l k):=by rw [Int.toNat_natCast]; exact D7 l k hk
  have w3:IntKind.wrap .i64 ((k:Int) + 1) = ((k + 1:Nat):Int):=eV (by omega)
  have eT:at? p (el l k).to = some (el p (el l k).to.toNat):=by
   have:=tI p (el l k).to.toNat (by omega)
   rwa [Int.toNat_of_nonneg g3] at this
  have eF:at? p (el l k).from_ = some (el p (el l k).from_.toNat):=by
   have:=tI p (el l k).from_.toNat (by omega)
   rwa [Int.toNat_of_nonneg g1] at this
  have bT:=hpb (el l k).to.toNat (by omega)
  have bF:=hpb (el l k).from_.toNat (by omega)
  have wF:IntKind.wrap .i64 (el p (el l k).from_.toNat + (el l k).cost) = el p (el l k).from_.toNat + (el l k).cost:=kY (by omega) (by omega)
  have cL:(a.length + 1) * 48 ≤ 140737488355328:=by omega
  simp only [if_pos c0,if_pos ck,ek,Option.bind_some,eT,eF,wF,w3,if_pos cL]
  by_cases h1:(i:Int) < (el l k).due
  ·have d1:decide ((el l k).due > (i:Int)) = true:=by simpa using h1
   by_cases h2:el p (el l k).to.toNat = el p (el l k).from_.toNat + (el l k).cost
   ·have d2:(el p (el l k).to.toNat == el p (el l k).from_.toNat + (el l k).cost) = true:=by simpa using h2
    have ht:zQ p i (el l k) = true:=by unfold zQ; rw [decide_eq_true h1,decide_eq_true h2]; rfl
    rw [if_pos d1,if_pos d2,List.filter_cons_of_pos ht]
    rfl
   ·have d2:¬ (el p (el l k).to.toNat == el p (el l k).from_.toNat + (el l k).cost) = true:=by simpa using h2
    have ht:¬ zQ p i (el l k) = true:=by unfold zQ; rw [decide_eq_false h2]; simp
    rw [if_pos d1,if_neg d2,List.filter_cons_of_neg ht,List.filter_nil,List.append_nil]
  ·have d1:¬ decide ((el l k).due > (i:Int)) = true:=by simpa using h1
   have ht:¬ zQ p i (el l k) = true:=by unfold zQ; rw [decide_eq_false h1]; simp
   rw [if_neg d1,List.filter_cons_of_neg ht,List.filter_nil,List.append_nil]
 ·rintro a rfl
  rw [List.take_length]
  refine ⟨_,?_,rfl⟩
  show eK n dues p i x l l.length _ = _
  unfold eK
  rw [if_neg (by simp)]
theorem aJF (hll:l.length ≤ 100000) (i:Int) (x:List Int) (d:aM):mM n dues p i x l d 0 l = some (l.map UW):=by
 unfold mM
 suffices hh:∃ y,fE (fun (w:Int × List aB)=>eN n dues p i x l d w.1 w.2) (0,l) = some y ∧ y = l.map UW by
  obtain ⟨y,h1,h2⟩:=hh
  rw [h2] at h1; exact h1
 refine qI (step:=fun (w:Int × List aB)=>eN n dues p i x l d w.1 w.2) (fun k (a:List aB)=>((k:Int),a)) l.length (fun k a=>a.length = l.length ∧ ∀ j,j < l.length→el a j = if j < k then UW (el l j) else el l j) _ ?_ ?_ _ ⟨rfl,fun j hj=>by rw [if_neg (Nat.not_lt_zero _)]⟩
 ·rintro k a hk ⟨h1,h2⟩
  refine .inl ⟨a.set k (UW (el l k)),?_,by simp [h1],fun j hj=>?_⟩
  ·show eN n dues p i x l d k a = _
   unfold eN
   have c0:decide ((k:Int) < (l.length:Int)) = true:=by simpa using hk
   have ck:0 ≤ (k:Int) ∧ (k:Int).toNat < a.length:=⟨by omega,by rw [Int.toNat_natCast]; omega⟩
   have ek:a[(k:Int).toNat]? = some (el l k):=by rw [Int.toNat_natCast,D7 a k (by omega),h2 k hk,if_neg (Nat.lt_irrefl _)]
   have w3:IntKind.wrap .i64 ((k:Int) + 1) = ((k + 1:Nat):Int):=eV (by omega)
   simp only [if_pos c0,if_pos ck,ek,Option.bind_some,w3]
   rfl
  ·rw [fP,h2 j hj]
   by_cases e:j = k
   ·subst e
    rw [if_pos ⟨rfl,by omega⟩,if_pos (Nat.lt_succ_self _)]
   ·rw [if_neg fun q=>e q.1]
    by_cases c:j < k
    ·rw [if_pos c,if_pos (by omega)]
    ·rw [if_neg c,if_neg (by omega)]
 ·rintro a ⟨h1,h2⟩
  refine ⟨a,?_,?_⟩
  ·show eN n dues p i x l d l.length a = _
   unfold eN
   rw [if_neg (by simp)]
  ·refine AG (by rw [h1,List.length_map]) fun j hj=>?_
   rw [h1] at hj
   rw [h2 j hj,if_pos hj,i9 UW l j hj]
theorem Q2 {e:aB} {fr tt:Nat→Nat} {s x:Nat→Int} {cc:Bool→Int} {i:Nat} {b:Bool} (h:bS e = CV fr tt s x cc i b):bS (UW e) = CV fr tt s x (fun _=>0) i b:=by
 have h1:e.due = i:=congrArg gE.due h
 have h2:=congrArg gE.sf h
 have h3:=congrArg gE.st h
 have h4:=congrArg gE.most h
 have h5:=congrArg gE.back h
 simp only [bS,CV] at h2 h3 h4 h5
 simp only [bS,CV,UW,h1,h2,h3,h4,h5]
theorem aD3 (h:FB n dues) (x:Nat→Int) (p:List Int) (i:Nat):o9 (oV dues) (pB dues) (rC dues) dues.length x (SW (oV dues) (pB dues) (el p) i) (fun _=>0) ((((iV dues x dues.length).filter (zQ p i)).map UW).map bS):=by
 have ht:∀ j b,j < dues.length→(zQ p i (CZ dues x j b) = true ↔ SW (oV dues) (pB dues) (el p) i j b):=by
  intro j b hj
  unfold zQ SW oV pB QP
  rw [Bool.and_eq_true,decide_eq_true_eq,decide_eq_true_eq]
  cases b <;> simp [CZ]
 constructor
 ·intro k hk
  rw [List.length_map,List.length_map] at hk
  rw [i9 bS _ k (by rw [List.length_map]; exact hk),i9 UW _ k hk]
  have hm:=GL _ _ hk
  rw [List.mem_filter] at hm
  obtain ⟨hm1,hm2⟩:=hm
  obtain ⟨j,b,hj,e,hm⟩:=uE.1 hm1
  rw [e] at hm2 ⊢
  refine ⟨j,b,hj,(ht j b hj).1 hm2,?_,Q2 (pR h hj b)⟩
  have e2:(CV (oV dues) (pB dues) (rC dues) x (fun _=>0) j b).most = (bS (CZ dues x j b)).most:=by rw [pR h hj]; rfl
  rw [e2]; exact hm
 ·intro j b hj hT hm
  have e2:(CV (oV dues) (pB dues) (rC dues) x (fun _=>0) j b).most = (bS (CZ dues x j b)).most:=by rw [pR h hj]; rfl
  rw [e2] at hm
  have h1:=(uE (dues:=dues) (x:=x) (m:=dues.length)).2 ⟨j,b,hj,rfl,hm⟩
  have h2:=List.mem_filter.2 ⟨h1,(ht j b hj).2 hT⟩
  obtain ⟨k,hk,e⟩:=WU h2
  refine ⟨k,by rw [List.length_map,List.length_map]; exact hk,?_⟩
  rw [i9 bS _ k (by rw [List.length_map]; exact hk),i9 UW _ k hk,e]
  exact Q2 (pR h hj b)
theorem XA (hl:∀ g ∈ l,ED n g) {last:List Int} (hla:last.length = n) {m:Nat} (hdue:∀ g ∈ l,0 ≤ g.due ∧ g.due < m) (a0:Int) (a1:List aM) (a3:List Int) (a4:Int) (best:List aD) {d D:Int} (hd0:0 ≤ d) (hdD:d ≤ D) {v u:Nat} {ks:List Nat} (w:Pth (l.map bS) last v ks u):v < n→∀ (x:List Int) (B:Int),x.length = m→(∀ i,-B ≤ el x i ∧ el x i ≤ B)→B + (ks.length:Int) * D ≤ 4611686018427387904 →
  iT a0 a1 a3 a4 l (best,last) d v x = some (yD (l.map bS) d x ks):=by
 induction w with
 | nil v hv =>
  intro hvn x B hxm hx hB
  unfold iT
  refine fT ?_
  show fU a0 a1 a3 a4 l (best,last) d v x = _
  unfold fU
  dsimp only
  rw [if_pos ⟨by omega,by rw [Int.toNat_natCast]; omega⟩,Int.toNat_natCast,D7 last v (by omega),hv]
  rfl
 | @cons v k u ks hk hlv hd w ih =>
  intro hvn x B hxm hx hB
  rw [List.length_map] at hk
  obtain ⟨q1,q2⟩:=QA hl hk
  obtain ⟨b1,b2⟩:=D3 (l:=l) (last:=last) (by omega:v < last.length) hlv hk
  have hg:=hdue (el l k) (GL _ _ hk)
  have hD0:0 ≤ D:=by omega
  have hks:((k :: ks).length:Int) * D = (ks.length:Int) * D + D:=by
   rw [List.length_cons]; rw [show ((ks.length + 1:Nat):Int) = (ks.length:Int) + 1 by omega,Int.add_mul,Int.one_mul]
  have hpos:0 ≤ (ks.length:Int) * D:=Int.mul_nonneg (by omega) hD0
  have hmv:=aDX (g:=el l k) (x:=x) (B:=B) hg.1 (by omega) hx hd0 hdD (by omega)
  unfold iT
  rw [gP (s':=((el l k).from_,x.set (el l k).due.toNat (el x (el l k).due.toNat + TN (bS (el l k)) d))) ?_]
  ·have hsg:-D ≤ TN (bS (el l k)) d ∧ TN (bS (el l k)) d ≤ D:=by unfold TN; split <;> omega
   have hxd:=hx (el l k).due.toNat
   have:=ih q1 (x.set (el l k).due.toNat (el x (el l k).due.toNat + TN (bS (el l k)) d)) (B + D) (by rw [List.length_set]; exact hxm) (N8 hx (by omega) (by omega) hD0) (by omega)
   unfold iT at this
   rw [q2,this,yD,i9 bS l k hk]
   rfl
  ·show fU a0 a1 a3 a4 l (best,last) d v x = _
   unfold fU
   dsimp only
   have cv:0 ≤ (v:Int) ∧ (v:Int).toNat < last.length:=⟨by omega,by rw [Int.toNat_natCast]; omega⟩
   have ck:0 ≤ (k:Int) ∧ (k:Int).toNat < l.length:=⟨by omega,by rw [Int.toNat_natCast]; exact hk⟩
   have cg:decide ((k:Int) ≥ 0) = true:=by simp
   simp only [if_pos cv,if_pos ck,b1,b2,Option.bind_some,if_pos cg,hmv]
end
end Go.Proofs.Ytiimibimkpimbaa
set_option linter.unusedVariables false
set_option linter.unusedSimpArgs false
namespace Go.Proofs.Ytiimibimkpimbaa
open Go.RowKit Vm
section
variable {n:Nat} {dues:List aM} {p:List Int}
theorem W9 (h:FB n dues) (hp:p.length = n) (hpb:∀ v,v < n→-1000 ≤ el p v ∧ el p v ≤ 1000) {i:Nat} (hi:i < dues.length) {x:List Int} (hl:x.length = dues.length) (hB:sI (oV dues) (pB dues) (rC dues) n dues.length (el x)) (hc:rD (oV dues) (pB dues) (rC dues) dues.length (el x) (el p)) (hpi:el p (pB dues i) = el p (oV dues i) - 1) :
  (∃ x',dU n dues p i x = some (.inl x') ∧ x'.length = dues.length ∧ sI (oV dues) (pB dues) (rC dues) n dues.length (el x') ∧ rD (oV dues) (pB dues) (rC dues) dues.length (el x') (el p) ∧ (∀ j,j < i→el x' j = el x j) ∧ (el (dues.map (·.Sum)) i - el x' i).toNat < (el (dues.map (·.Sum)) i - el x i).toNat) ∨
  ((dU n dues p i x = some (.inr (.inl x)) ∨ dU n dues p i x = some (.inr (.inr x))) ∧ xM (oV dues) (pB dues) (rC dues) n dues.length (el x) i):=by
 have hr:InR (rC dues) dues.length (el x):=fun j hj=>⟨hB.lo j hj,hB.hi j hj⟩
 have hst:=QE h hl hr
 have hok:=LO h (el x)
 have hll:=w6 dues (el x) dues.length
 have hlen:=h.len
 have hnn:=h.nn
 have hdi:=h.each i hi
 have hxi:=hr i hi
 have S:=aD3 h (el x) p i
 have hdue:=aCt h (el x)
 have c4:0 ≤ (i:Int) ∧ (i:Int).toNat < x.length:=⟨by omega,by rw [Int.toNat_natCast]; omega⟩
 have e4:x[(i:Int).toNat]? = some (el x i):=by rw [Int.toNat_natCast]; exact D7 x i (by omega)
 have eD:=tI dues i hi
 by_cases hfull:el x i < rC dues i
 ·have hfull' : decide (el x i < (el dues i).Sum) = true:=by simpa [rC] using hfull
  have hti:=aHf (dues:=dues) hok (by omega) hp hpb i x
  have hl1:∀ g ∈ ((iV dues (el x) dues.length).filter (zQ p i)).map UW,ED n g:=by
   intro g hg
   obtain ⟨g',hg',rfl⟩:=List.mem_map.1 hg
   have:=hok g' (List.mem_filter.1 hg').1
   exact ⟨this.1,this.2.1,by simp [UW]⟩
  have hl2:∀ g ∈ ((iV dues (el x) dues.length).filter (zQ p i)).map UW,0 ≤ g.due ∧ g.due < (dues.length:Nat):=by
   intro g hg
   obtain ⟨g',hg',rfl⟩:=List.mem_map.1 hg
   exact hdue g' (List.mem_filter.1 hg').1
  have hfl:((iV dues (el x) dues.length).filter (zQ p i)).length ≤ 200:=Nat.le_trans (List.length_filter_le _ _) (by omega)
  have hz:=aJF (n:=n) (dues:=dues) (p:=p) (l:=(iV dues (el x) dues.length).filter (zQ p i)) (by omega) i x (el dues i)
  have hl3:(((iV dues (el x) dues.length).filter (zQ p i)).map UW).length ≤ 200:=by rw [List.length_map]; exact hfl
  generalize (iV dues (el x) dues.length).filter (zQ p i) = l0 at *
  generalize l0.map UW = l at *
  have hpot:Pot gE.src gE.dst gE.cost (l.map bS) fun _=>0:=by
   intro k hk
   obtain ⟨j,b,_,_,_,e⟩:=S.sound k hk
   rw [e]
   show (0:Int) ≤ 0 + 0
   omega
  have htoo:((List.replicate n (0:Int)).set (el dues i).To.toNat 1).length = n:=by rw [List.length_set,List.length_replicate]
  obtain ⟨best,last,q1,q2,q3,T⟩:=YH (n:=n) (by omega) hl1 (by omega) htoo hpot
  have hroot:∀ v,v < n→(decide (el ((List.replicate n (0:Int)).set (el dues i).To.toNat 1) v > 0) = true ↔ v = pB dues i):=by
   intro v hv
   rw [decide_eq_true_eq,fP,List.length_replicate,mA _ _ _ hv]
   unfold pB
   by_cases e:v = (el dues i).To.toNat
   ·rw [if_pos ⟨e,by omega⟩]; simp [e]
   ·rw [if_neg fun q=>e q.1]; simp [e]
  have cT:0 ≤ (el dues i).To ∧ (el dues i).To.toNat < (List.replicate n (0:Int)).length:=⟨by omega,by rw [List.length_replicate]; omega⟩
  have eT:(List.replicate n (0:Int))[(el dues i).To.toNat]? = some 0:=by rw [D7 _ _ (by rw [List.length_replicate]; omega),mA _ _ _ (by omega)]
  have cF:0 ≤ (el dues i).From ∧ (el dues i).From.toNat < (best.map mP).length:=⟨by omega,by rw [List.length_map]; omega⟩
  have eF:(best.map mP)[(el dues i).From.toNat]? = some (mP (el best (oV dues i))):=by rw [List.getElem?_map,D7 best _ (by omega)]; rfl
  have c0:0 ≤ (n:Int) ∧ (n:Int) ≤ (n:Int) ∧ 8 * (n:Int) ≤ 281474976710656 ∧ (n:Int) ≤ 9223372036854775807:=by omega
  have hgf:(mP (el best (oV dues i))).fine = (el best (oV dues i)).fine:=rfl
  by_cases hf:(el best (oV dues i)).fine = true
  ·obtain ⟨ks,u,w,hu,hRu,hFu,hk⟩:=T.path _ (oV dues i) (Nat.lt_succ_self _) (h.fr i hi) hf
   obtain rfl:=(hroot u hu).1 hRu
   have hkl:∀ k ∈ ks,k < l.length:=fun k hks=>by have:=(hk k hks).1; rwa [List.length_map] at this
   have hk' : ∀ k ∈ ks,k < (l.map bS).length ∧ (fun v=>(el best v).k.toNat) (el (l.map bS) k).src < (fun v=>(el best v).k.toNat) (el (l.map bS) k).dst:=fun k hks=>⟨(hk k hks).1,(hk k hks).2.2.2.1⟩
   obtain ⟨_,hnd⟩:=w.dues S (μ:=fun v=>(el best v).k.toNat) hk'
   have hksl:ks.length ≤ 100:=by
    have:=JI dues.length _ hnd (fun z hz=>by
     obtain ⟨k,hks,rfl⟩:=List.mem_map.1 hz
     rw [i9 bS l k (hkl k hks)]
     have:=hl2 (el l k) (GL _ _ (hkl k hks))
     show (el l k).due.toNat < _
     omega)
    rw [List.length_map] at this
    omega
   have hpos:∀ k ∈ ks,0 < (el l k).most:=fun k hks=>by
    obtain ⟨j,b,_,_,hm,e⟩:=S.sound k (hk k hks).1
    rw [← Y3 (hkl k hks),e]; exact hm
   unfold rC at hfull hxi
   have hmm:=P7 l ks ((el dues i).Sum - el x i)
   have hmp:=J0 l ks ((el dues i).Sum - el x i) (by omega) hpos
   have w1:=XC hl1 q3 n dues p i x (best.map mP) w (h.fr i hi) ((el dues i).Sum - el x i)
   have hfrE:((oV dues i:Nat):Int) = (el dues i).From:=by unfold oV; omega
   rw [hfrE] at w1
   generalize LP l ((el dues i).Sum - el x i) ks = d at *
   have w2:=XA hl1 q3 (m:=dues.length) hl2 n dues p i (best.map mP) (d:=d) (D:=1099511627776) (by omega) (by omega) w (h.fr i hi) x 1099511627776 hl (fun j=>by
    by_cases hj:j < dues.length
    ·have:=hr j hj; have:=h.each j hj; unfold rC at *; omega
    ·rw [show el x j = 0 by simp [el,show ¬ j < x.length by omega]]; omega) (by
    have:(ks.length:Int) * 1099511627776 ≤ 100 * 1099511627776:=Int.mul_le_mul_of_nonneg_right (by omega) (by omega)
    omega)
   rw [hfrE] at w2
   obtain ⟨m0,m1,m2,m3,m4,m5⟩:=WB hl hi S hB hc hpi (μ:=fun v=>(el best v).k.toNat) w hk' (d:=d) (by omega) (fun k hks=>by rw [Y3 (hkl k hks)]; exact hmm.2 k hks) (by unfold rC; omega)
   refine .inl ⟨_,?_,m1,m2,m3,m4,?_⟩
   ·unfold dU
    have wS:IntKind.wrap .i64 ((el dues i).Sum - el x i) = (el dues i).Sum - el x i:=kY (by omega) (by omega)
    have hml:(yD (l.map bS) d x ks).length = dues.length:=by rw [JO,hl]
    have c5:0 ≤ (i:Int) ∧ (i:Int).toNat < (yD (l.map bS) d x ks).length:=⟨by omega,by rw [Int.toNat_natCast]; omega⟩
    have e5:(yD (l.map bS) d x ks)[(i:Int).toNat]? = some (el (yD (l.map bS) d x ks) i):=by rw [Int.toNat_natCast]; exact D7 _ i (by omega)
    have w5:IntKind.wrap .i64 (el (yD (l.map bS) d x ks) i + d) = el (yD (l.map bS) d x ks) i + d:=by rw [m0]; exact kY (by omega) (by omega)
    have cn:¬ (!(el best (oV dues i)).fine) = true:=by rw [hf]; decide
    simp only [if_pos c4,e4,Option.bind_some,eD,if_pos hfull',hst,hti,if_pos c0,Int.toNat_natCast n,if_pos cT,eT,hz,q1,if_pos cF,eF,hgf,if_neg cn,wS,w1,w2,if_pos c5,e5,w5]
    rw [Int.toNat_natCast]
   ·rw [i9 (·.Sum) dues i hi,m5]
    omega
  ·refine .inr ⟨.inr ?_,?_⟩
   ·unfold dU
    have cn:(!(el best (oV dues i)).fine) = true:=by simpa using hf
    simp only [if_pos c4,e4,Option.bind_some,eD,if_pos hfull',hst,hti,if_pos c0,Int.toNat_natCast n,if_pos cT,eT,hz,q1,if_pos cF,eF,hgf,if_pos cn]
   ·refine aAJ hi h.fr h.tt hB hc S (F:=fun v=>(el best v).fine) (fun k hk hF=>(T.closed k hk hF).1) (T.root _ (h.tt i hi) ((hroot _ (h.tt i hi)).2 rfl)) (by simpa using hf)
 ·refine .inr ⟨.inl ?_,UT hi (by omega)⟩
  unfold dU
  have hfull' : ¬ decide (el x i < (el dues i).Sum) = true:=by simpa [rC] using hfull
  rw [if_pos c4,e4,Option.bind_some,eD,Option.bind_some,if_neg hfull']
theorem aGv (h:FB n dues) (hp:p.length = n) (hpb:∀ v,v < n→-1000 ≤ el p v ∧ el p v ≤ 1000) {i:Nat} (hi:i < dues.length) {x:List Int} (hl:x.length = dues.length) (hB:sI (oV dues) (pB dues) (rC dues) n dues.length (el x)) (hc:rD (oV dues) (pB dues) (rC dues) dues.length (el x) (el p)) :
  ∃ x',nA n dues x p i = some x' ∧ x'.length = dues.length ∧ sI (oV dues) (pB dues) (rC dues) n dues.length (el x') ∧ rD (oV dues) (pB dues) (rC dues) dues.length (el x') (el p) ∧ (∀ j,j < i→el x' j = el x j) ∧ xM (oV dues) (pB dues) (rC dues) n dues.length (el x') i:=by
 have hdi:=h.each i hi
 have hnn:=h.nn
 have eD:=tI dues i hi
 have eT:at? p (el dues i).To = some (el p (pB dues i)):=by
  have:=tI p (el dues i).To.toNat (by omega)
  rwa [Int.toNat_of_nonneg hdi.2.1.1] at this
 have eF:at? p (el dues i).From = some (el p (oV dues i)):=by
  have:=tI p (el dues i).From.toNat (by omega)
  rwa [Int.toNat_of_nonneg hdi.1.1] at this
 have bF:=hpb _ (h.fr i hi)
 unfold nA
 rw [eD,Option.bind_some,eT,Option.bind_some,Option.bind_some,eF,Option.bind_some,kY (by omega) (by omega)]
 by_cases hpi:el p (pB dues i) = el p (oV dues i) - 1
 ·have cn:¬ (el p (pB dues i) != el p (oV dues i) - 1) = true:=by simpa using hpi
  rw [if_neg cn]
  unfold o3
  obtain ⟨z,h1,h2⟩:=NI (step:=fun (w:List Int)=>dU n dues p i w) (fun w=>w.length = dues.length ∧ sI (oV dues) (pB dues) (rC dues) n dues.length (el w) ∧ rD (oV dues) (pB dues) (rC dues) dues.length (el w) (el p) ∧ ∀ j,j < i→el w j = el x j) (fun w=>(el (dues.map (·.Sum)) i - el w i).toNat)
   (fun z=>∃ x' : List Int,(z = .inl x' ∨ z = .inr x') ∧ x'.length = dues.length ∧ sI (oV dues) (pB dues) (rC dues) n dues.length (el x') ∧ rD (oV dues) (pB dues) (rC dues) dues.length (el x') (el p) ∧ (∀ j,j < i→el x' j = el x j) ∧ xM (oV dues) (pB dues) (rC dues) n dues.length (el x') i) (fun w ⟨i1,i2,i3,i4⟩=>by
    rcases W9 h hp hpb hi i1 i2 i3 hpi with ⟨x',s1,s2,s3,s4,s5,s6⟩ | ⟨s1 | s1,s2⟩
    ·exact .inl ⟨x',s1,⟨s2,s3,s4,fun j hj=>by rw [s5 j hj,i4 j hj]⟩,s6⟩
    ·exact .inr ⟨_,s1,w,.inl rfl,i1,i2,i3,i4,s2⟩
    ·exact .inr ⟨_,s1,w,.inr rfl,i1,i2,i3,i4,s2⟩) x ⟨hl,hB,hc,fun _ _=>rfl⟩
  obtain ⟨x',h3,h4⟩:=h2
  refine ⟨x',?_,h4⟩
  rw [h1,Option.bind_some]
  rcases h3 with rfl | rfl <;> rfl
 ·have cn:(el p (pB dues i) != el p (oV dues i) - 1) = true:=by simpa using hpi
  rw [if_pos cn]
  exact ⟨x,rfl,hl,hB,hc,fun _ _=>rfl,TG hi h.fr h.tt hB hc hpi⟩
structure R5 (n:Nat) (dues:List aM) (x q:List Int):Prop where
 len:x.length = dues.length
 lenQ:q.length = n
 bald:sI (oV dues) (pB dues) (rC dues) n dues.length (el x)
 cert:rD (oV dues) (pB dues) (rC dues) dues.length (el x) (el q)
 lex:∀ i,i < dues.length→xM (oV dues) (pB dues) (rC dues) n dues.length (el x) i
 least:ES n ((iV dues (el x) dues.length).map bS) (el q)
theorem R5.one {x q x' q' : List Int} (h:FB n dues) (a:R5 n dues x q) (b:R5 n dues x' q'):x = x' ∧ q = q':=by
 have hs:g9 (el x) dues.length = g9 (el x') dues.length:=by
  have h1:=DC h.fr h.tt a.bald b.bald a.cert
  have h2:=DC h.fr h.tt b.bald a.bald b.cert
  omega
 have e:=aF1 a.bald b.bald hs a.lex b.lex
 have e1:x = x':=AG (by rw [a.len,b.len]) fun i hi=>e i (by rw [← a.len]; exact hi)
 subst e1
 refine ⟨rfl,AG (by rw [a.lenQ,b.lenQ]) fun v hv=>a.least.one b.least (by rw [← a.lenQ]; exact hv)⟩
theorem aIY (h:FB n dues):mD n dues 0 (List.replicate dues.length (0:Int)) = some (dues.map (·.Sum)):=by
 unfold mD
 have hlen:=h.len
 suffices hh:∃ y,fE (fun (w:Int × List Int)=>eU n dues w.1 w.2) (0,List.replicate dues.length (0:Int)) = some y ∧ y = dues.map (·.Sum) by
  obtain ⟨y,h1,h2⟩:=hh
  rw [h2] at h1; exact h1
 refine qI (step:=fun (w:Int × List Int)=>eU n dues w.1 w.2) (fun k (a:List Int)=>((k:Int),a)) dues.length (fun k a=>a.length = dues.length ∧ ∀ j,j < k→el a j = (el dues j).Sum) _ ?_ ?_ _ ⟨List.length_replicate,fun j hj=>absurd hj (Nat.not_lt_zero _)⟩
 ·rintro k a hk ⟨h1,h2⟩
  refine .inl ⟨a.set k (el dues k).Sum,?_,by simp [h1],fun j hj=>?_⟩
  ·show eU n dues k a = _
   unfold eU
   have c0:decide ((k:Int) < (dues.length:Int)) = true:=by simpa using hk
   have ck:0 ≤ (k:Int) ∧ (k:Int).toNat < a.length:=⟨by omega,by rw [Int.toNat_natCast]; omega⟩
   have ek:a[(k:Int).toNat]? = some (el a k):=by rw [Int.toNat_natCast]; exact D7 a k (by omega)
   have w3:IntKind.wrap .i64 ((k:Int) + 1) = ((k + 1:Nat):Int):=eV (by omega)
   simp only [if_pos c0,tI dues k hk,Option.bind_some,if_pos ck,ek,w3]
   rw [Int.toNat_natCast]
  ·rw [fP]
   by_cases e:j = k
   ·subst e; rw [if_pos ⟨rfl,by omega⟩]
   ·rw [if_neg fun q=>e q.1]; exact h2 j (by omega)
 ·rintro a ⟨h1,h2⟩
  refine ⟨a,?_,?_⟩
  ·show eU n dues dues.length a = _
   unfold eU
   rw [if_neg (by simp)]
  ·refine AG (by rw [h1,List.length_map]) fun j hj=>?_
   rw [h1] at hj
   rw [h2 j hj,i9 (·.Sum) dues j hj]
theorem ES.cert (h:FB n dues) {x:List Int} {q:Nat→Int} (hq:ES n ((iV dues (el x) dues.length).map bS) q):rD (oV dues) (pB dues) (rC dues) dues.length (el x) q :=
 (FX (LK h (el x)) q).2 hq.pot
theorem aIK (h:FB n dues) (hR:k8 n dues = some true):∃ x q,iS n dues = some (x,q,0) ∧ R5 n dues x q:=by
 have hlen:=h.len
 have hnn:=h.nn
 unfold iS
 rw [hR,Option.bind_some,if_neg (by decide),if_pos (by omega),Int.toNat_natCast,aIY h,Option.bind_some]
 obtain ⟨x0,a1,a2,a3,p0,a4⟩:=aBh h (sums:=dues.map (·.Sum)) (by rw [List.length_map]) fun i hi=>by rw [i9 (·.Sum) dues i hi]; rfl
 obtain ⟨q0,b1,b2,b3⟩:=aDp h a2 (fun i hi=>⟨a3.lo i hi,a3.hi i hi⟩) a4
 have b4:=b3.cert h
 have hpb:∀ v,v < n→-1000 ≤ el q0 v ∧ el q0 v ≤ 1000:=fun v hv=>by have:=b3.le0 v hv; have:=b3.lo v hv; omega
 rw [a1,Option.bind_some,b1,Option.bind_some]
 have hl2:∃ x,mL n dues q0 0 x0 = some x ∧ x.length = dues.length ∧ sI (oV dues) (pB dues) (rC dues) n dues.length (el x) ∧ rD (oV dues) (pB dues) (rC dues) dues.length (el x) (el q0) ∧ ∀ i,i < dues.length→xM (oV dues) (pB dues) (rC dues) n dues.length (el x) i:=by
  unfold mL
  refine qI (step:=fun (w:Int × List Int)=>fB n dues q0 w.1 w.2) (fun k (a:List Int)=>((k:Int),a)) dues.length (fun k a=>a.length = dues.length ∧ sI (oV dues) (pB dues) (rC dues) n dues.length (el a) ∧ rD (oV dues) (pB dues) (rC dues) dues.length (el a) (el q0) ∧ ∀ i,i < k→xM (oV dues) (pB dues) (rC dues) n dues.length (el a) i) _ ?_ ?_ _ ⟨a2,a3,b4,fun j hj=>absurd hj (Nat.not_lt_zero _)⟩
  ·rintro k a hk ⟨i1,i2,i3,i4⟩
   obtain ⟨x',r1,r2,r3,r4,r5,r6⟩:=aGv h b2 hpb hk i1 i2 i3
   refine .inl ⟨x',?_,r2,r3,r4,fun j hj=>?_⟩
   ·show fB n dues q0 k a = _
    unfold fB
    have c0:decide ((k:Int) < (dues.length:Int)) = true:=by simpa using hk
    rw [if_pos c0,r1,Option.bind_some,eV (by omega)]
   ·by_cases e:j = k
    ·subst e; exact r6
    ·exact (i4 j (by omega)).keep (fun j' hj'=>r5 j' (by omega)) (DC h.fr h.tt r3 i2 r4)
  ·rintro a hI
   refine ⟨a,?_,hI⟩
   show fB n dues q0 dues.length a = _
   unfold fB
   rw [if_neg (by simp)]
 obtain ⟨x,d1,d2,d3,d4,d5⟩:=hl2
 obtain ⟨q,f1,f2,f3⟩:=aDp h d2 (fun i hi=>⟨d3.lo i hi,d3.hi i hi⟩) d4
 rw [d1,Option.bind_some,f1,Option.bind_some]
 exact ⟨x,q,rfl,d2,f2,d3,f3.cert h,d5,f3⟩
end
end Go.Proofs.Ytiimibimkpimbaa
set_option linter.unusedVariables false
set_option linter.unusedSimpArgs false
namespace Go.Proofs.Ytiimibimkpimbaa
open Go.RowKit Vm
def qG (n:Int) (d:aM):Prop:=(0 ≤ d.From ∧ d.From < n) ∧ (0 ≤ d.To ∧ d.To < n) ∧ d.From ≠ d.To ∧ 1 ≤ d.Sum ∧ d.Sum ≤ 1099511627776
instance (n:Int) (d:aM):Decidable (qG n d):=by unfold qG; exact inferInstance
def PI (n:Int) (dues:List aM):Bool:=decide (0 ≤ n ∧ n ≤ 40) && decide (dues.length ≤ 100) && MV (fun i=>decide (qG n (el dues i))) dues.length
theorem WI {n:Int} {dues:List aM}:PI n dues = true ↔ ∃ m:Nat,n = m ∧ FB m dues:=by
 unfold PI
 rw [Bool.and_eq_true,Bool.and_eq_true,decide_eq_true_eq,decide_eq_true_eq,F7]
 constructor
 ·rintro ⟨⟨⟨h1,h2⟩,h3⟩,h4⟩
  refine ⟨n.toNat,by omega,⟨by omega,h3,fun i hi=>?_⟩⟩
  have:=of_decide_eq_true (h4 i hi)
  unfold qG at this
  omega
 ·rintro ⟨m,rfl,h⟩
  refine ⟨⟨⟨by omega,by have:=h.nn; omega⟩,h.len⟩,fun i hi=>decide_eq_true (h.each i hi)⟩
theorem aFg (n:Int) (dues:List aM):k8 n dues = some (PI n dues):=by
 unfold k8 PI
 by_cases h1:0 ≤ n ∧ n ≤ 40
 ·have c1:¬ decide (n < 0) = true:=by simp; omega
  have c2:¬ decide (n > 40) = true:=by simp; omega
  rw [if_neg c1,if_neg c2,decide_eq_true h1]
  by_cases h2:dues.length ≤ 100
  ·have c3:¬ decide ((dues.length:Int) > 100) = true:=by simp; omega
   rw [if_neg c3,decide_eq_true h2]
   have key:mO n dues 0 = some (if MV (fun i=>decide (qG n (el dues i))) dues.length = true then .inl () else .inr ()):=by
    unfold mO
    refine RA? (step:=fun w=>fA n dues w) (fun i:Nat=>(i:Int)) dues.length (fun i=>decide (qG n (el dues i))) () ?_ ?_
    ·intro i hi
     show fA n dues i = _
     unfold fA
     have w3:IntKind.wrap .i64 ((i:Int) + 1) = ((i + 1:Nat):Int):=eV (by omega)
     have c0:decide ((i:Int) < (dues.length:Int)) = true:=by simpa using hi
     simp only [if_pos c0,tI dues i hi,Option.bind_some,w3]
     simp only [decide_eq_true_eq,beq_iff_eq]
     generalize el dues i = d
     by_cases a1:d.From < 0
     ·have hno:¬ qG n d:=by unfold qG; omega
      rw [if_pos a1,if_neg hno]
     rw [if_neg a1]
     by_cases a2:d.From ≥ n
     ·have hno:¬ qG n d:=by unfold qG; omega
      rw [if_pos a2,if_neg hno]
     rw [if_neg a2]
     by_cases a3:d.To < 0
     ·have hno:¬ qG n d:=by unfold qG; omega
      rw [if_pos a3,if_neg hno]
     rw [if_neg a3]
     by_cases a4:d.To ≥ n
     ·have hno:¬ qG n d:=by unfold qG; omega
      rw [if_pos a4,if_neg hno]
     rw [if_neg a4]
     by_cases a5:d.From = d.To
     ·have hno:¬ qG n d:=by unfold qG; omega
      rw [if_pos a5,if_neg hno]
     rw [if_neg a5]
     by_cases a6:d.Sum < 1
     ·have hno:¬ qG n d:=by unfold qG; omega
      rw [if_pos a6,if_neg hno]
     rw [if_neg a6]
     by_cases a7:d.Sum > 1099511627776
     ·have hno:¬ qG n d:=by unfold qG; omega
      rw [if_pos a7,if_neg hno]
     rw [if_neg a7,if_pos (show qG n d by unfold qG; omega)]
    ·show fA n dues dues.length = _
     unfold fA
     rw [if_neg (by simp)]
   rw [key,Option.bind_some]
   cases MV (fun i=>decide (qG n (el dues i))) dues.length <;> rfl
  ·have c3:decide ((dues.length:Int) > 100) = true:=by simp; omega
   rw [if_pos c3,decide_eq_false h2]; rfl
 ·rw [decide_eq_false h1]
  by_cases h2:n < 0
  ·rw [if_pos (decide_eq_true h2)]; rfl
  ·have c1:¬ decide (n < 0) = true:=by simpa using h2
   have c2:decide (n > 40) = true:=by simp; omega
   rw [if_neg c1,if_pos c2]; rfl
end Go.Proofs.Ytiimibimkpimbaa
set_option linter.unusedVariables false
set_option linter.unusedSimpArgs false
namespace Go.Proofs.Ytiimibimkpimbaa
open Go.RowKit Vm
section
variable {n:Nat} {dues:List aM} {x q:List Int}
structure aL1 (n:Nat) (dues:List aM) (x q:List Int):Prop where
 len:x.length = dues.length
 lenQ:q.length = n
 bald:sI (oV dues) (pB dues) (rC dues) n dues.length (el x)
 rng:∀ v,v < n→-40 ≤ el q v ∧ el q v ≤ 40
 cert:rD (oV dues) (pB dues) (rC dues) dues.length (el x) (el q)
end
end Go.Proofs.Ytiimibimkpimbaa
