/- Clearing: balancing ends balanced, and best. Clearing: the potentials are the least costs of steps. Clearing: raising one due. Clearing: what Clear returns. Clearing: what Right, Total, Balanced and Proves say. Clearing: what Balanced and Proves say. -/
import Derived.Test.YtiimibimkpimbaaPCa
set_option linter.unusedVariables false
set_option linter.unusedSimpArgs false
namespace Go.Proofs.Ytiimibimkpimbaa
open Go.RowKit Vm
section
variable {n:Nat} {dues:List aK} {sums:List Int}
def VJ (n:Nat) (dues:List aK) (x:Nat->Int):Int:=fI (fun v=>if 0 < pF (oT dues) (pR dues) dues.length x v then pF (oT dues) (pR dues) dues.length x v else 0) n
theorem S3 (x:Nat->Int):0 <= VJ n dues x:=IR fun v _=>by split <;> omega
theorem aAK {x y:Nat->Int} {u v:Nat} {d:Int} (hu:u < n) (hd:0 < d) (h1:d <= pF (oT dues) (pR dues) dues.length x u) (h2:d <= -pF (oT dues) (pR dues) dues.length x v)
  (h:∀ z,pF (oT dues) (pR dues) dues.length y z = pF (oT dues) (pR dues) dues.length x z + (if v = z then d else 0) - (if u = z then d else 0)):VJ n dues y = VJ n dues x - d:=by
 have hne:¬ v = u:=fun e=>by subst e; omega
 unfold VJ
 rw [jK (h:=fun z=>(if 0 < pF (oT dues) (pR dues) dues.length x z then pF (oT dues) (pR dues) dues.length x z else 0) - (if z = u then d else 0)) fun z _=>?_,xK,GB hu]
 rw [h z]
 by_cases e1:z = u
 ·subst e1
  rw [if_neg hne,if_pos rfl]
  split <;> split <;> omega
 ·rw [if_neg (fun q:u = z=>e1 q.symm),if_neg e1]
  by_cases e2:v = z
  ·subst e2
   rw [if_pos rfl]
   split <;> split <;> omega
  ·rw [if_neg e2]
   simp
theorem Y8 {l:List aB} {k:Nat} (hk:k < l.length):(el (l.map bW) k).most = (el l k).most:=by rw [jD bW l k hk]; rfl
theorem aE7 (h:FS n dues) (x:Nat->Int):∀ g ∈ iY dues x dues.length,0 <= g.due ∧ g.due < (dues.length:Nat):=by
 intro g hg
 obtain ⟨i,b,hi,rfl,_⟩:=uO.1 hg
 simp only [DT]
 omega
theorem QA (h:FS n dues) {too x:List Int} (hto:too = LN n dues (el x)) (hl:x.length = dues.length) (hr:InR (rC dues) dues.length (el x)) {p:Nat->Int} (hp:rQ (oT dues) (pR dues) (rC dues) dues.length (el x) p) :
  (∃ too' x',eJ n dues too x = some (.inl (too',x')) ∧ too' = LN n dues (el x') ∧ x'.length = dues.length ∧ InR (rC dues) dues.length (el x') ∧ (∃ p',rQ (oT dues) (pR dues) (rC dues) dues.length (el x') p') ∧ (VJ n dues (el x')).toNat < (VJ n dues (el x)).toNat) ∨
  (eJ n dues too x = some (.inr x) ∧ sL (oT dues) (pR dues) (rC dues) n dues.length (el x)):=by
 have S:=MQ h (el x)
 have hpot:=(F9 S p).1 hp
 have hlen:=h.len
 have hnn:=h.nn
 have hst:=QU h hl hr
 have hok:=LV h (el x)
 have hll:=xM dues (el x) dues.length
 have htl:too.length = n:=by rw [hto,MX]
 have hte:∀ v,v < n->el too v = pF (oT dues) (pR dues) dues.length (el x) v:=fun v hv=>by rw [hto,PT _ hv]
 have hdue:=aE7 h (el x)
 generalize iY dues (el x) dues.length = l at *
 obtain ⟨best,last,q1,q2,q3,T⟩:=YQ (n:=n) (by omega) hok (by omega) htl hpot
 obtain ⟨e,r1,r2⟩:=aKQ (sums:=x) (dues:=dues) (by omega:n <= 1000) htl q2 last l
 rcases r2 with ⟨rfl,r2⟩ | ⟨v,rfl,hv,hv1,hv2⟩
 ·refine .inr ⟨?_,?_⟩
  ·unfold eJ
   rw [hst,Option.bind_some,q1,Option.bind_some,r1,Option.bind_some,if_pos (by decide)]
  ·refine TM (F:=fun v=>(el best v).fine) (q:=fun v=>(el best v).c) (μ:=fun v=>(el best v).k.toNat) (last:=last) S h.fr h.tt hr ⟨fun w hw hF=>?_,T.closed,fun w hw hR=>T.root w hw ?_⟩ fun w hw hneg=>r2 w hw (by rw [hte w hw]; exact hneg)
   ·rcases T.tree w hw hF with ⟨t1,t2⟩ | t
    ·exact .inl ⟨t1,by have:=of_decide_eq_true t2; rw [hte w hw] at this; exact this⟩
    ·exact .inr t
   ·rw [hte w hw]; exact decide_eq_true hR
 ·obtain ⟨ks,u,w,hu,hRu,hFu,hk⟩:=T.path _ v (Nat.lt_succ_self _) hv hv2
  have hu1:=of_decide_eq_true hRu
  have hkl:∀ k ∈ ks,k < l.length:=fun k hks=>by have:=(hk k hks).1; rwa [List.length_map] at this
  obtain ⟨_,hnd⟩:=w.dues S (μ:=fun v=>(el best v).k.toNat) fun k hks=>⟨(hk k hks).1,(hk k hks).2.2.2.1⟩
  have hksl:ks.length <= 100:=by
   have:=KE dues.length _ hnd (fun z hz=>by
    obtain ⟨k,hks,rfl⟩:=List.mem_map.1 hz
    rw [jD bW l k (hkl k hks)]
    have:=hdue (el l k) (by rw [show el l k = l[k]'(hkl k hks) from by simp [el,hkl k hks]]; exact List.getElem_mem _)
    show (el l k).due.toNat < _
    omega)
   rw [List.length_map] at this
   omega
  have hpos:∀ k ∈ ks,0 < (el l k).most:=fun k hks=>by
   obtain ⟨i,b,_,_,hm,e⟩:=S.sound k (hk k hks).1
   rw [← Y8 (hkl k hks),e]; exact hm
  have hbnd:∀ z,z < n->-(100 * 1099511627776) <= el too z ∧ el too z <= 100 * 1099511627776:=fun z hz=>by
   rw [hte z hz]
   have:=FL (fr:=oT dues) (tt:=pR dues) (x:=el x) (S:=1099511627776) (by omega) dues.length (fun i hi=>by have:=hr i hi; have:=h.each i hi; unfold rC at *; omega) z
   have:(dues.length:Int) * 1099511627776 <= 100 * 1099511627776:=by omega
   omega
  have bv:=hbnd v hv
  have bu:=hbnd u hu
  have hneg0:IntKind.wrap .i64 (0 - el too v) = -el too v:=by rw [j5 (by omega) (by omega)]; omega
  have hmm:=QC l ks (-el too v)
  have hmp:=MW l ks (-el too v) (by omega) hpos
  have w1:=aBl hok q3 n dues too x (best.map mY) v w hv (-el too v)
  generalize hmv:M5 l (-el too v) ks = mm at *
  have hd:0 < (if el too u < mm then el too u else mm) ∧ (if el too u < mm then el too u else mm) <= mm ∧ (if el too u < mm then el too u else mm) <= el too u:=by split <;> omega
  have w2:=aA0 hok q3 (m:=dues.length) hdue n dues too (best.map mY) v (mm,(u:Int)) (el too u) (D:=100 * 1099511627776) (by omega) (by omega) w hv x 1099511627776 hl (fun i=>by
   by_cases hi:i < dues.length
   ·have:=hr i hi; have:=h.each i hi; unfold rC at *; omega
   ·rw [show el x i = 0 by simp [el,show ¬ i < x.length by omega]]; omega) (by
   have:(ks.length:Int) * (100 * 1099511627776) <= 100 * (100 * 1099511627776):=Int.mul_le_mul_of_nonneg_right (by omega) (by omega)
   omega)
  dsimp only at w2
  generalize hde:(if el too u < mm then el too u else mm) = d at *
  obtain ⟨m1,m2,m3,m4⟩:=RB hl S h.fr h.tt hr hp (F:=fun v=>(el best v).fine) T w (fun k hks=>⟨(hk k hks).1,(hk k hks).2.1,(hk k hks).2.2.1,(hk k hks).2.2.2.1,(hk k hks).2.2.2.2.2⟩) (d:=d) (by omega) (fun k hks=>by rw [Y8 (hkl k hks)]; have:=hmm.2 k hks; omega)
  have hne:¬ v = u:=fun e=>by subst e; omega
  refine .inl ⟨LN n dues (el (yN (l.map bW) d x ks)),yN (l.map bW) d x ks,?_,rfl,m1,m2,m3,?_⟩
  ·unfold eJ
   have cn:¬ decide ((v:Int) < 0) = true:=by simp
   have cv:0 <= (v:Int) ∧ (v:Int).toNat < too.length:=⟨by omega,by rw [Int.toNat_natCast]; omega⟩
   have cu:0 <= (u:Int) ∧ (u:Int).toNat < too.length:=⟨by omega,by rw [Int.toNat_natCast]; omega⟩
   have ev:too[(v:Int).toNat]? = some (el too v):=by rw [Int.toNat_natCast]; exact E2 too v (by omega)
   have eu:too[(u:Int).toNat]? = some (el too u):=by rw [Int.toNat_natCast]; exact E2 too u (by omega)
   have wu:IntKind.wrap .i64 (el too u - d) = el too u - d:=j5 (by omega) (by omega)
   have wv:IntKind.wrap .i64 (el too v + d) = el too v + d:=j5 (by omega) (by omega)
   have cv2:0 <= (v:Int) ∧ (v:Int).toNat < (too.set (u:Int).toNat (el too u - d)).length:=⟨by omega,by rw [List.length_set,Int.toNat_natCast]; omega⟩
   have ev2:(too.set (u:Int).toNat (el too u - d))[(v:Int).toNat]? = some (el too v):=by
    rw [Int.toNat_natCast,Int.toNat_natCast,E2 _ _ (by rw [List.length_set]; omega),fP,if_neg fun q=>hne q.1]
   simp only [hst,q1,r1,Option.bind_some,if_neg cn,if_pos cv,ev,hneg0,w1,if_pos cu,eu,hde,w2,wu,if_pos cv2,ev2,wv]
   congr 3
   refine BW (by rw [List.length_set,List.length_set,htl,MX]) fun z hz=>?_
   rw [List.length_set,List.length_set,htl] at hz
   rw [PT _ hz,m4 z,fP,fP,Int.toNat_natCast,Int.toNat_natCast,List.length_set,htl,← hte z hz]
   by_cases e1:z = v
   ·subst e1
    have hzu:¬ u = z:=fun q=>hne q.symm
    rw [if_pos ⟨rfl,hz⟩,if_pos rfl,if_neg hzu]; omega
   ·have hvz:¬ v = z:=fun q=>e1 q.symm
    have hc1:¬ (z = v ∧ v < n):=fun q=>e1 q.1
    by_cases e2:z = u
    ·subst e2
     rw [if_neg hc1,if_neg hvz,if_pos ⟨rfl,hz⟩,if_pos rfl]; omega
    ·have huz:¬ u = z:=fun q=>e2 q.symm
     have hc2:¬ (z = u ∧ u < n):=fun q=>e2 q.1
     rw [if_neg hc1,if_neg hvz,if_neg hc2,if_neg huz]; omega
  ·have h1:=aAK (dues:=dues) (x:=el x) (y:=el (yN (l.map bW) d x ks)) hu (by omega:0 < d) (by rw [← hte u hu]; omega) (by rw [← hte v hv]; omega) m4
   have h2:=S3 (n:=n) (dues:=dues) (el (yN (l.map bW) d x ks))
   omega
theorem aA9 (h:FS n dues) (hl:sums.length = dues.length) (hfull:∀ i,i < dues.length->el sums i = rC dues i):∃ x,lE n dues sums = some x ∧ x.length = dues.length ∧ sL (oT dues) (pR dues) (rC dues) n dues.length (el x) ∧ ∃ p,rQ (oT dues) (pR dues) (rC dues) dues.length (el x) p:=by
 have hr:InR (rC dues) dues.length (el sums):=fun i hi=>by have:=h.each i hi; have:=hfull i hi; unfold rC at *; omega
 have hnn:=h.nn
 have hc:rQ (oT dues) (pR dues) (rC dues) dues.length (el sums) fun _=>0:=fun i hi=>⟨fun c=>by rw [hfull i hi] at c; omega,fun _=>by show (0:Int) <= 0 + 1; omega⟩
 unfold lE
 rw [if_pos (by omega),Int.toNat_natCast,aJR h hl hr,Option.bind_some]
 unfold nQ
 obtain ⟨x,h1,h2⟩:=OS (step:=fun (w:List Int × List Int)=>eJ n dues w.1 w.2) (fun w=>w.1 = LN n dues (el w.2) ∧ w.2.length = dues.length ∧ InR (rC dues) dues.length (el w.2) ∧ ∃ p,rQ (oT dues) (pR dues) (rC dues) dues.length (el w.2) p) (fun w=>(VJ n dues (el w.2)).toNat)
  (fun x=>x.length = dues.length ∧ sL (oT dues) (pR dues) (rC dues) n dues.length (el x) ∧ ∃ p,rQ (oT dues) (pR dues) (rC dues) dues.length (el x) p) (fun w ⟨i1,i2,i3,p,i4⟩=>by
   rcases QA h i1 i2 i3 i4 with ⟨too',x',s1,s2,s3,s4,s5,s6⟩ | ⟨s1,s2⟩
   ·exact .inl ⟨(too',x'),s1,⟨s2,s3,s4,s5⟩,s6⟩
   ·exact .inr ⟨_,s1,i2,s2,p,i4⟩) (LN n dues (el sums),sums) ⟨rfl,hl,hr,_,hc⟩
 rw [h1]
 exact ⟨x,rfl,h2⟩
end
end Go.Proofs.Ytiimibimkpimbaa
set_option linter.unusedVariables false
set_option linter.unusedSimpArgs false
namespace Go.Proofs.Ytiimibimkpimbaa
open Go.RowKit Vm
def nK (a b:Int):Bool:=decide (a < b)
def v7 (a:Int) (s:gI):Int:=a + s.cost
def aAF (a c:Int) (k:Nat):Int:=a + c
theorem LE (a b:Int):nK a b = false ↔ b <= a:=by simp [nK]
theorem aL6:aCv nK v7 where
 irr a:=by simp [nK]
 asym a b h:=by simp [nK] at *; omega
 neg a b c h1 h2:=by simp [nK] at *; omega
 mono a b s h:=by simp [nK,v7] at *; omega
theorem aLk (cst:gI->Int) (hc:∀ s,cst s = s.cost):aAk nK v7 cst aAF where
 zero a:=by simp [aAF]
 step a c k s:=by
  rw [hc]
  simp only [aAF,v7]
  omega
 le a c k c' k' h:=by
  unfold DO
  rw [LE]
  simp only [aAF]
  omega
def M4 (n:Nat) (B:Int) (best:List Int):Prop:=∀ v,v < n->-B <= el best v ∧ el best v <= B
theorem GX {n:Nat} {l:List aB} {best:List Int} {last:List Int} {B:Int} (hl:∀ g ∈ l,ES n g) (hb:best.length = n) (hla:last.length = n) (h:M4 n B best) (hB:0 <= B):∀ k,k <= l.length ->
  (((List.range k).foldl (iM nK v7 gI.src gI.dst (l.map bW)) (best,last,false)).1.length = n ∧ ((List.range k).foldl (iM nK v7 gI.src gI.dst (l.map bW)) (best,last,false)).2.1.length = n ∧ M4 n (B + k) ((List.range k).foldl (iM nK v7 gI.src gI.dst (l.map bW)) (best,last,false)).1):=by
 intro k
 induction k with
 | zero=>intro _; exact ⟨hb,hla,by simpa using h⟩
 | succ k ih =>
  intro hk
  obtain ⟨h1,h2,h3⟩:=ih (by omega)
  rw [List.range_succ,List.foldl_append,List.foldl_cons,List.foldl_nil]
  generalize (List.range k).foldl (iM nK v7 gI.src gI.dst (l.map bW)) (best,last,false) = z at *
  have hg:=hl (el l k) (by rw [show el l k = l[k] from by simp [el,show k < l.length by omega]]; exact List.getElem_mem _)
  obtain ⟨⟨g1,g2⟩,⟨g3,g4⟩,g5,g6⟩:=hg
  have hmono:M4 n (B + (k + 1:Nat)) z.1:=fun v hv=>by have:=h3 v hv; omega
  unfold iM
  rw [jD bW l k (by omega)]
  split
  ·refine ⟨by simp [h1],by simp [h2],fun v hv=>?_⟩
   dsimp only
   rw [fP]
   split
   ·have:=h3 (el l k).from_.toNat (by omega)
    simp only [v7,bW,gI.src]
    omega
   ·exact hmono v hv
  ·exact ⟨h1,h2,hmono⟩
theorem Z8 (a b:Int):pT a b = some (nK a b):=by
 unfold pT o0
 simp [nK]
theorem VX {n:Nat} {l:List aB} {best:List Int} {last:List Int} {B:Int} (hl:∀ g ∈ l,ES n g) (hb:best.length = n) (hla:last.length = n) (h:M4 n B best) (hB:0 <= B) (hBl:B + l.length <= 4611686018427387904) :
  i7 l false 0 best last = some ((pC nK v7 gI.src gI.dst (l.map bW) best last).2.2,(pC nK v7 gI.src gI.dst (l.map bW) best last).1,(pC nK v7 gI.src gI.dst (l.map bW) best last).2.1):=by
 unfold i7 pC
 rw [List.length_map]
 suffices hh:∃ x,eW (fun (w:Bool × Int × List Int × List Int)=>eC l w.1 w.2.1 w.2.2.1 w.2.2.2) (false,0,best,last) = some x ∧ x = (((List.range l.length).foldl (iM nK v7 gI.src gI.dst (l.map bW)) (best,last,false)).2.2,((List.range l.length).foldl (iM nK v7 gI.src gI.dst (l.map bW)) (best,last,false)).1,((List.range l.length).foldl (iM nK v7 gI.src gI.dst (l.map bW)) (best,last,false)).2.1) by
  obtain ⟨x,h1,h2⟩:=hh
  rw [h2] at h1; exact h1
 refine n8 (step:=fun (w:Bool × Int × List Int × List Int)=>eC l w.1 w.2.1 w.2.2.1 w.2.2.2) (fun k (a:List Int × List Int × Bool)=>(a.2.2,(k:Int),a.1,a.2.1)) l.length
  (fun k a=>a = (List.range k).foldl (iM nK v7 gI.src gI.dst (l.map bW)) (best,last,false)) (fun x=>x = (((List.range l.length).foldl (iM nK v7 gI.src gI.dst (l.map bW)) (best,last,false)).2.2,((List.range l.length).foldl (iM nK v7 gI.src gI.dst (l.map bW)) (best,last,false)).1,((List.range l.length).foldl (iM nK v7 gI.src gI.dst (l.map bW)) (best,last,false)).2.1)) ?_ ?_ (best,last,false) rfl
 ·rintro k a hk rfl
  refine .inl ?_
  obtain ⟨q1,q2,q3⟩:=GX hl hb hla h hB k (by omega)
  rw [List.range_succ,List.foldl_append,List.foldl_cons,List.foldl_nil]
  generalize (List.range k).foldl (iM nK v7 gI.src gI.dst (l.map bW)) (best,last,false) = z at *
  have hg:=hl (el l k) (by rw [show el l k = l[k] from by simp [el,hk]]; exact List.getElem_mem _)
  obtain ⟨⟨g1,g2⟩,⟨g3,g4⟩,g5,g6⟩:=hg
  refine ⟨_,?_,rfl⟩
  unfold eC
  have e1:z.1[(el l k).from_.toNat]? = some (el z.1 (el l k).from_.toNat):=E2 z.1 _ (by omega)
  have e2:z.1[(el l k).to.toNat]? = some (el z.1 (el l k).to.toNat):=E2 z.1 _ (by omega)
  have b:=q3 (el l k).from_.toNat (by omega)
  have c0:decide ((k:Int) < (l.length:Int)) = true:=by simpa using hk
  have ck:0 <= (k:Int) ∧ (k:Int).toNat < l.length:=⟨by omega,by rw [Int.toNat_natCast]; omega⟩
  have ek:l[(k:Int).toNat]? = some (el l k):=by rw [Int.toNat_natCast]; exact E2 l k hk
  have cF:0 <= (el l k).from_ ∧ (el l k).from_.toNat < z.1.length:=⟨g1,by omega⟩
  have cT:0 <= (el l k).to ∧ (el l k).to.toNat < z.1.length:=⟨g3,by omega⟩
  have cL:0 <= (el l k).to ∧ (el l k).to.toNat < z.2.1.length:=⟨g3,by omega⟩
  have ho:iD (el z.1 (el l k).from_.toNat) (el l k) = some (v7 (el z.1 (el l k).from_.toNat) (bW (el l k))):=by
   unfold iD
   rw [j5 (by omega) (by omega)]
   rfl
  have w3:IntKind.wrap .i64 ((k:Int) + 1) = ((k + 1:Nat):Int):=dL (by omega)
  have eL:z.2.1[(el l k).to.toNat]? = some (el z.2.1 (el l k).to.toNat):=E2 z.2.1 _ (by omega)
  simp only [if_pos c0,if_pos ck,ek,Option.bind_some,if_pos cF,e1,ho,if_pos cT,e2,Z8,w3,if_pos cL,eL]
  unfold iM
  rw [jD bW l k hk]
  have e3:gI.src (bW (el l k)) = (el l k).from_.toNat:=rfl
  have e4:gI.dst (bW (el l k)) = (el l k).to.toNat:=rfl
  rw [e3,e4]
  split
  ·rfl
  ·rfl
 ·rintro a rfl
  refine ⟨_,?_,rfl⟩
  unfold eC
  rw [if_neg (by simp)]
theorem PM {n:Nat} {l:List aB} (hl:∀ g ∈ l,ES n g):∀ (f:Nat) (best:List Int) (last:List Int) (B:Int) (b:List Int) (la:List Int),best.length = n->last.length = n->M4 n B best->0 <= B->B + (f * l.length:Nat) <= 4611686018427387904 ->
  NM nK v7 gI.src gI.dst (l.map bW) f best last = some (b,la)->i9 l true best last = some (b,la)
 | 0,best,last,B,b,la,_,_,_,_,_,h=>by cases h
 | f + 1,best,last,B,b,la,hb,hla,hB,hB0,hBf,h=>by
  have hmul:(f + 1) * l.length = f * l.length + l.length:=Nat.succ_mul f l.length
  have hr:=VX hl hb hla hB hB0 (by omega)
  obtain ⟨q1,q2,q3⟩:=GX hl hb hla hB hB0 l.length (Nat.le_refl _)
  have e0:pC nK v7 gI.src gI.dst (l.map bW) best last = (List.range l.length).foldl (iM nK v7 gI.src gI.dst (l.map bW)) (best,last,false):=by unfold pC; rw [List.length_map]
  rw [← e0] at q1 q2 q3
  simp only [NM] at h
  generalize pC nK v7 gI.src gI.dst (l.map bW) best last = z at *
  unfold i9
  rw [gL (s':=(z.2.2,z.1,z.2.1)) (by unfold gA; rw [if_pos rfl,hr]; rfl)]
  split at h
  ·rename_i hc
   rw [hc]
   exact PM hl f z.1 z.2.1 (B + l.length) b la q1 q2 q3 (by omega) (by omega) h
  ·rename_i hc
   cases h
   exact gP (by unfold gA; exact if_neg hc)
theorem JZ.cost_ge {l:List gI} (hc:∀ i,i < l.length->-1 <= (el l i).cost) {u k v:Nat} {c:Int} (w:JZ gI.src gI.dst gI.cost l u k c v):-(k:Int) <= c:=by
 induction w with
 | zero=>omega
 | step i hi _ ih=>have:=hc i hi; omega
structure FG (n:Nat) (l:List gI) (q:Nat->Int):Prop where
 le0:∀ v,v < n->q v <= 0
 lo:∀ v,v < n->-(n:Int) + 1 <= q v
 pot:Pot gI.src gI.dst gI.cost l q
 wk:∀ v,v < n->∃ u k,u < n ∧ JZ gI.src gI.dst gI.cost l u k (q v) v
 le:∀ u k c v,u < n->JZ gI.src gI.dst gI.cost l u k c v->q v <= c
theorem FG.one {n:Nat} {l:List gI} {q q' : Nat->Int} (h:FG n l q) (h' : FG n l q') {v:Nat} (hv:v < n):q v = q' v:=by
 obtain ⟨u,k,hu,w⟩:=h.wk v hv
 obtain ⟨u',k',hu',w'⟩:=h'.wk v hv
 have a:=h.le u' k' _ v hu' w'
 have b:=h'.le u k _ v hu w
 omega
theorem aD1 {n:Nat} {dues:List aK} {x:List Int} (h:FS n dues) (hl:x.length = dues.length) (hr:InR (rC dues) dues.length (el x)) {p:Nat->Int} (hp:rQ (oT dues) (pR dues) (rC dues) dues.length (el x) p) :
  ∃ q,fY n dues x = some q ∧ q.length = n ∧ FG n ((iY dues (el x) dues.length).map bW) (el q):=by
 have S:=MQ h (el x)
 have hpot:=(F9 S p).1 hp
 have hlen:=h.len
 have hnn:=h.nn
 have hst:=QU h hl hr
 have hok:=LV h (el x)
 have hll:=xM dues (el x) dues.length
 have hs:=S.in_ h.fr h.tt
 generalize iY dues (el x) dues.length = l at *
 have hi:∀ v,v < n->el (List.replicate n (0:Int)) v = 0:=fun v hv=>mH _ _ _ hv
 obtain ⟨q,la,h1,h2,h3,h4⟩:=Y3 aL6 (aLk gI.cost fun _=>rfl) hpot (init:=List.replicate n (0:Int)) (by rw [List.length_replicate]; exact hs) (fuel:=n + 1) (by rw [List.length_replicate]; exact Nat.le_refl _)
 rw [List.length_replicate] at h1 h4
 have hmul:(n + 1) * l.length <= 1001 * 100000:=Nat.mul_le_mul (by omega) (by omega)
 have hq:∀ v,v < n->∃ u k,u < n ∧ JZ gI.src gI.dst gI.cost (l.map bW) u k (el q v) v:=by
  intro v hv
  obtain ⟨k,w⟩:=h2.wk v (by rw [List.length_replicate]; exact hv)
  obtain ⟨u,c,hu,hw,e⟩:=aIJ (aLk gI.cost fun _=>rfl) w
  rw [List.length_replicate] at hu
  rw [hi u hu] at e
  have e:el q v = c:=by simpa [aAF] using e
  rw [e]
  exact ⟨u,k,hu,hw⟩
 have hle:∀ u k c v,u < n->JZ gI.src gI.dst gI.cost (l.map bW) u k c v->el q v <= c:=by
  intro u k c v hu w
  have:=h4 u k c v hu w
  unfold DO at this
  rw [LE,hi u hu] at this
  simpa [aAF] using this
 refine ⟨q,?_,by rw [h2.len,List.length_replicate],⟨fun v hv=>hle v 0 0 v hv .zero,fun v hv=>?_,fun i hi'=>?_,hq,hle⟩⟩
 ·unfold fY
  rw [if_pos (by omega),hst,Option.bind_some,Int.toNat_natCast,List.length_replicate,aIA (by omega),Option.bind_some,PM hok (n + 1) _ _ 0 q la List.length_replicate List.length_replicate (fun v hv=>by rw [hi v hv]; omega) (Int.le_refl _) (by omega) h1]
  rfl
 ·obtain ⟨u,k,hu,w⟩:=hq v hv
  obtain ⟨j,c',hj,w',hc⟩:=w.short hpot hs hu
  have:=hle u j c' v hu w'
  have hge:=w'.cost_ge fun i hi'=>by
   rw [List.length_map] at hi'
   rw [jD bW l i hi']
   exact (hok (el l i) (by rw [show el l i = l[i] from by simp [el,hi']]; exact List.getElem_mem _)).2.2.1
  omega
 ·have:=h3 i hi'
  unfold DO at this
  rw [LE] at this
  exact this
end Go.Proofs.Ytiimibimkpimbaa
set_option linter.unusedVariables false
set_option linter.unusedSimpArgs false
namespace Go.Proofs.Ytiimibimkpimbaa
open Go.RowKit Vm
theorem aHh {α:Type} [Inhabited α] (l:List α) {k:Nat} (h:k < l.length):l.take (k + 1) = l.take k ++ [el l k]:=by
 rw [List.take_add_one,E2 l k h]; rfl
def zS (p:List Int) (i:Nat) (g:aB):Bool:=decide ((i:Int) < g.due) && decide (el p g.to.toNat = el p g.from_.toNat + g.cost)
def WK (g:aB):aB:=aB.mk g.due g.from_ g.to 0 g.most g.back
section
variable {n:Nat} {dues:List aK} {p:List Int} {l:List aB}
theorem aHG (hl:∀ g ∈ l,ES n g) (hll:l.length <= 100000) (hp:p.length = n) (hpb:∀ v,v < n->-1000 <= el p v ∧ el p v <= 1000) (i:Nat) (x:List Int):mS n dues p i x l 0 [] = some (l.filter (zS p i)):=by
 unfold mS
 suffices hh:∃ y,eW (fun (w:Int × List aB)=>eO n dues p i x l w.1 w.2) (0,[]) = some y ∧ y = l.filter (zS p i) by
  obtain ⟨y,h1,h2⟩:=hh
  rw [h2] at h1; exact h1
 refine n8 (step:=fun (w:Int × List aB)=>eO n dues p i x l w.1 w.2) (fun k (a:List aB)=>((k:Int),a)) l.length (fun k a=>a = (l.take k).filter (zS p i)) _ ?_ ?_ _ (by simp)
 ·rintro k a hk rfl
  refine .inl ⟨_,?_,rfl⟩
  have hlen:((l.take k).filter (zS p i)).length <= 100000:=Nat.le_trans (List.length_filter_le _ _) (by rw [List.length_take]; omega)
  obtain ⟨⟨g1,g2⟩,⟨g3,g4⟩,g5,g6⟩:=hl _ (G9 _ _ hk)
  rw [aHh l hk,List.filter_append]
  generalize (l.take k).filter (zS p i) = a at *
  show eO n dues p i x l k a = _
  unfold eO
  have c0:decide ((k:Int) < (l.length:Int)) = true:=by simpa using hk
  have ck:0 <= (k:Int) ∧ (k:Int).toNat < l.length:=⟨by omega,by rw [Int.toNat_natCast]; omega⟩
  have ek:l[(k:Int).toNat]? = some (el l k):=by rw [Int.toNat_natCast]; exact E2 l k hk
  have w3:IntKind.wrap .i64 ((k:Int) + 1) = ((k + 1:Nat):Int):=dL (by omega)
  have eT:at? p (el l k).to = some (el p (el l k).to.toNat):=by
   have:=rG p (el l k).to.toNat (by omega)
   rwa [Int.toNat_of_nonneg g3] at this
  have eF:at? p (el l k).from_ = some (el p (el l k).from_.toNat):=by
   have:=rG p (el l k).from_.toNat (by omega)
   rwa [Int.toNat_of_nonneg g1] at this
  have bT:=hpb (el l k).to.toNat (by omega)
  have bF:=hpb (el l k).from_.toNat (by omega)
  have wF:IntKind.wrap .i64 (el p (el l k).from_.toNat + (el l k).cost) = el p (el l k).from_.toNat + (el l k).cost:=j5 (by omega) (by omega)
  have cL:(a.length + 1) * 48 <= 140737488355328:=by omega
  simp only [if_pos c0,if_pos ck,ek,Option.bind_some,eT,eF,wF,w3,if_pos cL]
  by_cases h1:(i:Int) < (el l k).due
  ·have d1:decide ((el l k).due > (i:Int)) = true:=by simpa using h1
   by_cases h2:el p (el l k).to.toNat = el p (el l k).from_.toNat + (el l k).cost
   ·have d2:(el p (el l k).to.toNat == el p (el l k).from_.toNat + (el l k).cost) = true:=by simpa using h2
    have ht:zS p i (el l k) = true:=by unfold zS; rw [decide_eq_true h1,decide_eq_true h2]; rfl
    rw [if_pos d1,if_pos d2,List.filter_cons_of_pos ht]
    rfl
   ·have d2:¬ (el p (el l k).to.toNat == el p (el l k).from_.toNat + (el l k).cost) = true:=by simpa using h2
    have ht:¬ zS p i (el l k) = true:=by unfold zS; rw [decide_eq_false h2]; simp
    rw [if_pos d1,if_neg d2,List.filter_cons_of_neg ht,List.filter_nil,List.append_nil]
  ·have d1:¬ decide ((el l k).due > (i:Int)) = true:=by simpa using h1
   have ht:¬ zS p i (el l k) = true:=by unfold zS; rw [decide_eq_false h1]; simp
   rw [if_neg d1,List.filter_cons_of_neg ht,List.filter_nil,List.append_nil]
 ·rintro a rfl
  rw [List.take_length]
  refine ⟨_,?_,rfl⟩
  show eO n dues p i x l l.length _ = _
  unfold eO
  rw [if_neg (by simp)]
theorem aJ5 (hll:l.length <= 100000) (i:Int) (x:List Int) (d:aK):mN n dues p i x l d 0 l = some (l.map WK):=by
 unfold mN
 suffices hh:∃ y,eW (fun (w:Int × List aB)=>eK n dues p i x l d w.1 w.2) (0,l) = some y ∧ y = l.map WK by
  obtain ⟨y,h1,h2⟩:=hh
  rw [h2] at h1; exact h1
 refine n8 (step:=fun (w:Int × List aB)=>eK n dues p i x l d w.1 w.2) (fun k (a:List aB)=>((k:Int),a)) l.length (fun k a=>a.length = l.length ∧ ∀ j,j < l.length->el a j = if j < k then WK (el l j) else el l j) _ ?_ ?_ _ ⟨rfl,fun j hj=>by rw [if_neg (Nat.not_lt_zero _)]⟩
 ·rintro k a hk ⟨h1,h2⟩
  refine .inl ⟨a.set k (WK (el l k)),?_,by simp [h1],fun j hj=>?_⟩
  ·show eK n dues p i x l d k a = _
   unfold eK
   have c0:decide ((k:Int) < (l.length:Int)) = true:=by simpa using hk
   have ck:0 <= (k:Int) ∧ (k:Int).toNat < a.length:=⟨by omega,by rw [Int.toNat_natCast]; omega⟩
   have ek:a[(k:Int).toNat]? = some (el l k):=by rw [Int.toNat_natCast,E2 a k (by omega),h2 k hk,if_neg (Nat.lt_irrefl _)]
   have w3:IntKind.wrap .i64 ((k:Int) + 1) = ((k + 1:Nat):Int):=dL (by omega)
   simp only [if_pos c0,if_pos ck,ek,Option.bind_some,w3]
   rfl
  ·rw [fP,h2 j hj]
   by_cases e:j = k
   ·subst e
    rw [if_pos ⟨rfl,by omega⟩,if_pos (Nat.lt_succ_self _)]
   ·rw [if_neg fun q=>e q.1]
    by_cases c:j < k
    ·rw [if_pos c,if_pos (by omega)]
    ·rw [if_neg c,if_neg (by omega)]
 ·rintro a ⟨h1,h2⟩
  refine ⟨a,?_,?_⟩
  ·show eK n dues p i x l d l.length a = _
   unfold eK
   rw [if_neg (by simp)]
  ·refine BW (by rw [h1,List.length_map]) fun j hj=>?_
   rw [h1] at hj
   rw [h2 j hj,if_pos hj,jD WK l j hj]
theorem S2 {e:aB} {fr tt:Nat->Nat} {s x:Nat->Int} {cc:Bool->Int} {i:Nat} {b:Bool} (h:bW e = DG fr tt s x cc i b):bW (WK e) = DG fr tt s x (fun _=>0) i b:=by
 have h1:e.due = i:=congrArg gI.due h
 have h2:=congrArg gI.sf h
 have h3:=congrArg gI.st h
 have h4:=congrArg gI.most h
 have h5:=congrArg gI.back h
 simp only [bW,DG] at h2 h3 h4 h5
 simp only [bW,DG,WK,h1,h2,h3,h4,h5]
theorem aDw (h:FS n dues) (x:Nat->Int) (p:List Int) (i:Nat):pO (oT dues) (pR dues) (rC dues) dues.length x (UU (oT dues) (pR dues) (el p) i) (fun _=>0) ((((iY dues x dues.length).filter (zS p i)).map WK).map bW):=by
 have ht:∀ j b,j < dues.length->(zS p i (DT dues x j b) = true ↔ UU (oT dues) (pR dues) (el p) i j b):=by
  intro j b hj
  unfold zS UU oT pR RH
  rw [Bool.and_eq_true,decide_eq_true_eq,decide_eq_true_eq]
  cases b <;> simp [DT]
 constructor
 ·intro k hk
  rw [List.length_map,List.length_map] at hk
  rw [jD bW _ k (by rw [List.length_map]; exact hk),jD WK _ k hk]
  have hm:=G9 _ _ hk
  rw [List.mem_filter] at hm
  obtain ⟨hm1,hm2⟩:=hm
  obtain ⟨j,b,hj,e,hm⟩:=uO.1 hm1
  rw [e] at hm2 ⊢
  refine ⟨j,b,hj,(ht j b hj).1 hm2,?_,S2 (qL h hj b)⟩
  have e2:(DG (oT dues) (pR dues) (rC dues) x (fun _=>0) j b).most = (bW (DT dues x j b)).most:=by rw [qL h hj]; rfl
  rw [e2]; exact hm
 ·intro j b hj hT hm
  have e2:(DG (oT dues) (pR dues) (rC dues) x (fun _=>0) j b).most = (bW (DT dues x j b)).most:=by rw [qL h hj]; rfl
  rw [e2] at hm
  have h1:=(uO (dues:=dues) (x:=x) (m:=dues.length)).2 ⟨j,b,hj,rfl,hm⟩
  have h2:=List.mem_filter.2 ⟨h1,(ht j b hj).2 hT⟩
  obtain ⟨k,hk,e⟩:=PY h2
  refine ⟨k,by rw [List.length_map,List.length_map]; exact hk,?_⟩
  rw [jD bW _ k (by rw [List.length_map]; exact hk),jD WK _ k hk,e]
  exact S2 (qL h hj b)
theorem WX (hl:∀ g ∈ l,ES n g) {last:List Int} (hla:last.length = n) {m:Nat} (hdue:∀ g ∈ l,0 <= g.due ∧ g.due < m) (a0:Int) (a1:List aK) (a3:List Int) (a4:Int) (best:List aD) {d D:Int} (hd0:0 <= d) (hdD:d <= D) {v u:Nat} {ks:List Nat} (w:Pth (l.map bW) last v ks u):v < n->∀ (x:List Int) (B:Int),x.length = m->(∀ i,-B <= el x i ∧ el x i <= B)->B + (ks.length:Int) * D <= 4611686018427387904 ->
  i0 a0 a1 a3 a4 l (best,last) d v x = some (yN (l.map bW) d x ks):=by
 induction w with
 | nil v hv =>
  intro hvn x B hxm hx hB
  unfold i0
  refine gP ?_
  show fX a0 a1 a3 a4 l (best,last) d v x = _
  unfold fX
  dsimp only
  rw [if_pos ⟨by omega,by rw [Int.toNat_natCast]; omega⟩,Int.toNat_natCast,E2 last v (by omega),hv]
  rfl
 | @cons v k u ks hk hlv hd w ih =>
  intro hvn x B hxm hx hB
  rw [List.length_map] at hk
  obtain ⟨q1,q2⟩:=QR hl hk
  obtain ⟨b1,b2⟩:=EM (l:=l) (last:=last) (by omega:v < last.length) hlv hk
  have hg:=hdue (el l k) (G9 _ _ hk)
  have hD0:0 <= D:=by omega
  have hks:((k :: ks).length:Int) * D = (ks.length:Int) * D + D:=by
   rw [List.length_cons]; rw [show ((ks.length + 1:Nat):Int) = (ks.length:Int) + 1 by omega,Int.add_mul,Int.one_mul]
  have hpos:0 <= (ks.length:Int) * D:=Int.mul_nonneg (by omega) hD0
  have hmv:=aE6 (g:=el l k) (x:=x) (B:=B) hg.1 (by omega) hx hd0 hdD (by omega)
  unfold i0
  rw [gL (s':=((el l k).from_,x.set (el l k).due.toNat (el x (el l k).due.toNat + UI (bW (el l k)) d))) ?_]
  ·have hsg:-D <= UI (bW (el l k)) d ∧ UI (bW (el l k)) d <= D:=by unfold UI; split <;> omega
   have hxd:=hx (el l k).due.toNat
   have:=ih q1 (x.set (el l k).due.toNat (el x (el l k).due.toNat + UI (bW (el l k)) d)) (B + D) (by rw [List.length_set]; exact hxm) (O8 hx (by omega) (by omega) hD0) (by omega)
   unfold i0 at this
   rw [q2,this,yN,jD bW l k hk]
   rfl
  ·show fX a0 a1 a3 a4 l (best,last) d v x = _
   unfold fX
   dsimp only
   have cv:0 <= (v:Int) ∧ (v:Int).toNat < last.length:=⟨by omega,by rw [Int.toNat_natCast]; omega⟩
   have ck:0 <= (k:Int) ∧ (k:Int).toNat < l.length:=⟨by omega,by rw [Int.toNat_natCast]; exact hk⟩
   have cg:decide ((k:Int) ≥ 0) = true:=by simp
   simp only [if_pos cv,if_pos ck,b1,b2,Option.bind_some,if_pos cg,hmv]
end
end Go.Proofs.Ytiimibimkpimbaa
set_option linter.unusedVariables false
set_option linter.unusedSimpArgs false
namespace Go.Proofs.Ytiimibimkpimbaa
open Go.RowKit Vm
section
variable {n:Nat} {dues:List aK} {p:List Int}
theorem V8 (h:FS n dues) (hp:p.length = n) (hpb:∀ v,v < n->-1000 <= el p v ∧ el p v <= 1000) {i:Nat} (hi:i < dues.length) {x:List Int} (hl:x.length = dues.length) (hB:sL (oT dues) (pR dues) (rC dues) n dues.length (el x)) (hc:rQ (oT dues) (pR dues) (rC dues) dues.length (el x) (el p)) (hpi:el p (pR dues i) = el p (oT dues i) - 1) :
  (∃ x',dW n dues p i x = some (.inl x') ∧ x'.length = dues.length ∧ sL (oT dues) (pR dues) (rC dues) n dues.length (el x') ∧ rQ (oT dues) (pR dues) (rC dues) dues.length (el x') (el p) ∧ (∀ j,j < i->el x' j = el x j) ∧ (el (dues.map (·.Sum)) i - el x' i).toNat < (el (dues.map (·.Sum)) i - el x i).toNat) ∨
  ((dW n dues p i x = some (.inr (.inl x)) ∨ dW n dues p i x = some (.inr (.inr x))) ∧ yB (oT dues) (pR dues) (rC dues) n dues.length (el x) i):=by
 have hr:InR (rC dues) dues.length (el x):=fun j hj=>⟨hB.lo j hj,hB.hi j hj⟩
 have hst:=QU h hl hr
 have hok:=LV h (el x)
 have hll:=xM dues (el x) dues.length
 have hlen:=h.len
 have hnn:=h.nn
 have hdi:=h.each i hi
 have hxi:=hr i hi
 have S:=aDw h (el x) p i
 have hdue:=aE7 h (el x)
 have c4:0 <= (i:Int) ∧ (i:Int).toNat < x.length:=⟨by omega,by rw [Int.toNat_natCast]; omega⟩
 have e4:x[(i:Int).toNat]? = some (el x i):=by rw [Int.toNat_natCast]; exact E2 x i (by omega)
 have eD:=rG dues i hi
 by_cases hfull:el x i < rC dues i
 ·have hfull' : decide (el x i < (el dues i).Sum) = true:=by simpa [rC] using hfull
  have hti:=aHG (dues:=dues) hok (by omega) hp hpb i x
  have hl1:∀ g ∈ ((iY dues (el x) dues.length).filter (zS p i)).map WK,ES n g:=by
   intro g hg
   obtain ⟨g',hg',rfl⟩:=List.mem_map.1 hg
   have:=hok g' (List.mem_filter.1 hg').1
   exact ⟨this.1,this.2.1,by simp [WK]⟩
  have hl2:∀ g ∈ ((iY dues (el x) dues.length).filter (zS p i)).map WK,0 <= g.due ∧ g.due < (dues.length:Nat):=by
   intro g hg
   obtain ⟨g',hg',rfl⟩:=List.mem_map.1 hg
   exact hdue g' (List.mem_filter.1 hg').1
  have hfl:((iY dues (el x) dues.length).filter (zS p i)).length <= 200:=Nat.le_trans (List.length_filter_le _ _) (by omega)
  have hz:=aJ5 (n:=n) (dues:=dues) (p:=p) (l:=(iY dues (el x) dues.length).filter (zS p i)) (by omega) i x (el dues i)
  have hl3:(((iY dues (el x) dues.length).filter (zS p i)).map WK).length <= 200:=by rw [List.length_map]; exact hfl
  generalize (iY dues (el x) dues.length).filter (zS p i) = l0 at *
  generalize l0.map WK = l at *
  have hpot:Pot gI.src gI.dst gI.cost (l.map bW) fun _=>0:=by
   intro k hk
   obtain ⟨j,b,_,_,_,e⟩:=S.sound k hk
   rw [e]
   show (0:Int) <= 0 + 0
   omega
  have htoo:((List.replicate n (0:Int)).set (el dues i).To.toNat 1).length = n:=by rw [List.length_set,List.length_replicate]
  obtain ⟨best,last,q1,q2,q3,T⟩:=YQ (n:=n) (by omega) hl1 (by omega) htoo hpot
  have hroot:∀ v,v < n->(decide (el ((List.replicate n (0:Int)).set (el dues i).To.toNat 1) v > 0) = true ↔ v = pR dues i):=by
   intro v hv
   rw [decide_eq_true_eq,fP,List.length_replicate,mH _ _ _ hv]
   unfold pR
   by_cases e:v = (el dues i).To.toNat
   ·rw [if_pos ⟨e,by omega⟩]; simp [e]
   ·rw [if_neg fun q=>e q.1]; simp [e]
  have cT:0 <= (el dues i).To ∧ (el dues i).To.toNat < (List.replicate n (0:Int)).length:=⟨by omega,by rw [List.length_replicate]; omega⟩
  have eT:(List.replicate n (0:Int))[(el dues i).To.toNat]? = some 0:=by rw [E2 _ _ (by rw [List.length_replicate]; omega),mH _ _ _ (by omega)]
  have cF:0 <= (el dues i).From ∧ (el dues i).From.toNat < (best.map mY).length:=⟨by omega,by rw [List.length_map]; omega⟩
  have eF:(best.map mY)[(el dues i).From.toNat]? = some (mY (el best (oT dues i))):=by rw [List.getElem?_map,E2 best _ (by omega)]; rfl
  have c0:0 <= (n:Int) ∧ (n:Int) <= (n:Int) ∧ 8 * (n:Int) <= 281474976710656 ∧ (n:Int) <= 9223372036854775807:=by omega
  have hgf:(mY (el best (oT dues i))).fine = (el best (oT dues i)).fine:=rfl
  by_cases hf:(el best (oT dues i)).fine = true
  ·obtain ⟨ks,u,w,hu,hRu,hFu,hk⟩:=T.path _ (oT dues i) (Nat.lt_succ_self _) (h.fr i hi) hf
   obtain rfl:=(hroot u hu).1 hRu
   have hkl:∀ k ∈ ks,k < l.length:=fun k hks=>by have:=(hk k hks).1; rwa [List.length_map] at this
   have hk' : ∀ k ∈ ks,k < (l.map bW).length ∧ (fun v=>(el best v).k.toNat) (el (l.map bW) k).src < (fun v=>(el best v).k.toNat) (el (l.map bW) k).dst:=fun k hks=>⟨(hk k hks).1,(hk k hks).2.2.2.1⟩
   obtain ⟨_,hnd⟩:=w.dues S (μ:=fun v=>(el best v).k.toNat) hk'
   have hksl:ks.length <= 100:=by
    have:=KE dues.length _ hnd (fun z hz=>by
     obtain ⟨k,hks,rfl⟩:=List.mem_map.1 hz
     rw [jD bW l k (hkl k hks)]
     have:=hl2 (el l k) (G9 _ _ (hkl k hks))
     show (el l k).due.toNat < _
     omega)
    rw [List.length_map] at this
    omega
   have hpos:∀ k ∈ ks,0 < (el l k).most:=fun k hks=>by
    obtain ⟨j,b,_,_,hm,e⟩:=S.sound k (hk k hks).1
    rw [← Y8 (hkl k hks),e]; exact hm
   unfold rC at hfull hxi
   have hmm:=QC l ks ((el dues i).Sum - el x i)
   have hmp:=MW l ks ((el dues i).Sum - el x i) (by omega) hpos
   have w1:=U5 hl1 q3 n dues p i x (best.map mY) w (h.fr i hi) ((el dues i).Sum - el x i)
   have hfrE:((oT dues i:Nat):Int) = (el dues i).From:=by unfold oT; omega
   rw [hfrE] at w1
   generalize M5 l ((el dues i).Sum - el x i) ks = d at *
   have w2:=WX hl1 q3 (m:=dues.length) hl2 n dues p i (best.map mY) (d:=d) (D:=1099511627776) (by omega) (by omega) w (h.fr i hi) x 1099511627776 hl (fun j=>by
    by_cases hj:j < dues.length
    ·have:=hr j hj; have:=h.each j hj; unfold rC at *; omega
    ·rw [show el x j = 0 by simp [el,show ¬ j < x.length by omega]]; omega) (by
    have:(ks.length:Int) * 1099511627776 <= 100 * 1099511627776:=Int.mul_le_mul_of_nonneg_right (by omega) (by omega)
    omega)
   rw [hfrE] at w2
   obtain ⟨m0,m1,m2,m3,m4,m5⟩:=XF hl hi S hB hc hpi (μ:=fun v=>(el best v).k.toNat) w hk' (d:=d) (by omega) (fun k hks=>by rw [Y8 (hkl k hks)]; exact hmm.2 k hks) (by unfold rC; omega)
   refine .inl ⟨_,?_,m1,m2,m3,m4,?_⟩
   ·unfold dW
    have wS:IntKind.wrap .i64 ((el dues i).Sum - el x i) = (el dues i).Sum - el x i:=j5 (by omega) (by omega)
    have hml:(yN (l.map bW) d x ks).length = dues.length:=by rw [J7,hl]
    have c5:0 <= (i:Int) ∧ (i:Int).toNat < (yN (l.map bW) d x ks).length:=⟨by omega,by rw [Int.toNat_natCast]; omega⟩
    have e5:(yN (l.map bW) d x ks)[(i:Int).toNat]? = some (el (yN (l.map bW) d x ks) i):=by rw [Int.toNat_natCast]; exact E2 _ i (by omega)
    have w5:IntKind.wrap .i64 (el (yN (l.map bW) d x ks) i + d) = el (yN (l.map bW) d x ks) i + d:=by rw [m0]; exact j5 (by omega) (by omega)
    have cn:¬ (!(el best (oT dues i)).fine) = true:=by rw [hf]; decide
    simp only [if_pos c4,e4,Option.bind_some,eD,if_pos hfull',hst,hti,if_pos c0,Int.toNat_natCast n,if_pos cT,eT,hz,q1,if_pos cF,eF,hgf,if_neg cn,wS,w1,w2,if_pos c5,e5,w5]
    rw [Int.toNat_natCast]
   ·rw [jD (·.Sum) dues i hi,m5]
    omega
  ·refine .inr ⟨.inr ?_,?_⟩
   ·unfold dW
    have cn:(!(el best (oT dues i)).fine) = true:=by simpa using hf
    simp only [if_pos c4,e4,Option.bind_some,eD,if_pos hfull',hst,hti,if_pos c0,Int.toNat_natCast n,if_pos cT,eT,hz,q1,if_pos cF,eF,hgf,if_pos cn]
   ·refine aAr hi h.fr h.tt hB hc S (F:=fun v=>(el best v).fine) (fun k hk hF=>(T.closed k hk hF).1) (T.root _ (h.tt i hi) ((hroot _ (h.tt i hi)).2 rfl)) (by simpa using hf)
 ·refine .inr ⟨.inl ?_,X0 hi (by omega)⟩
  unfold dW
  have hfull' : ¬ decide (el x i < (el dues i).Sum) = true:=by simpa [rC] using hfull
  rw [if_pos c4,e4,Option.bind_some,eD,Option.bind_some,if_neg hfull']
theorem aHF (h:FS n dues) (hp:p.length = n) (hpb:∀ v,v < n->-1000 <= el p v ∧ el p v <= 1000) {i:Nat} (hi:i < dues.length) {x:List Int} (hl:x.length = dues.length) (hB:sL (oT dues) (pR dues) (rC dues) n dues.length (el x)) (hc:rQ (oT dues) (pR dues) (rC dues) dues.length (el x) (el p)) :
  ∃ x',nF n dues x p i = some x' ∧ x'.length = dues.length ∧ sL (oT dues) (pR dues) (rC dues) n dues.length (el x') ∧ rQ (oT dues) (pR dues) (rC dues) dues.length (el x') (el p) ∧ (∀ j,j < i->el x' j = el x j) ∧ yB (oT dues) (pR dues) (rC dues) n dues.length (el x') i:=by
 have hdi:=h.each i hi
 have hnn:=h.nn
 have eD:=rG dues i hi
 have eT:at? p (el dues i).To = some (el p (pR dues i)):=by
  have:=rG p (el dues i).To.toNat (by omega)
  rwa [Int.toNat_of_nonneg hdi.2.1.1] at this
 have eF:at? p (el dues i).From = some (el p (oT dues i)):=by
  have:=rG p (el dues i).From.toNat (by omega)
  rwa [Int.toNat_of_nonneg hdi.1.1] at this
 have bF:=hpb _ (h.fr i hi)
 unfold nF
 rw [eD,Option.bind_some,eT,Option.bind_some,Option.bind_some,eF,Option.bind_some,j5 (by omega) (by omega)]
 by_cases hpi:el p (pR dues i) = el p (oT dues i) - 1
 ·have cn:¬ (el p (pR dues i) != el p (oT dues i) - 1) = true:=by simpa using hpi
  rw [if_neg cn]
  unfold pN
  obtain ⟨z,h1,h2⟩:=OS (step:=fun (w:List Int)=>dW n dues p i w) (fun w=>w.length = dues.length ∧ sL (oT dues) (pR dues) (rC dues) n dues.length (el w) ∧ rQ (oT dues) (pR dues) (rC dues) dues.length (el w) (el p) ∧ ∀ j,j < i->el w j = el x j) (fun w=>(el (dues.map (·.Sum)) i - el w i).toNat)
   (fun z=>∃ x' : List Int,(z = .inl x' ∨ z = .inr x') ∧ x'.length = dues.length ∧ sL (oT dues) (pR dues) (rC dues) n dues.length (el x') ∧ rQ (oT dues) (pR dues) (rC dues) dues.length (el x') (el p) ∧ (∀ j,j < i->el x' j = el x j) ∧ yB (oT dues) (pR dues) (rC dues) n dues.length (el x') i) (fun w ⟨i1,i2,i3,i4⟩=>by
    rcases V8 h hp hpb hi i1 i2 i3 hpi with ⟨x',s1,s2,s3,s4,s5,s6⟩ | ⟨s1 | s1,s2⟩
    ·exact .inl ⟨x',s1,⟨s2,s3,s4,fun j hj=>by rw [s5 j hj,i4 j hj]⟩,s6⟩
    ·exact .inr ⟨_,s1,w,.inl rfl,i1,i2,i3,i4,s2⟩
    ·exact .inr ⟨_,s1,w,.inr rfl,i1,i2,i3,i4,s2⟩) x ⟨hl,hB,hc,fun _ _=>rfl⟩
  obtain ⟨x',h3,h4⟩:=h2
  refine ⟨x',?_,h4⟩
  rw [h1,Option.bind_some]
  rcases h3 with rfl | rfl <;> rfl
 ·have cn:(el p (pR dues i) != el p (oT dues i) - 1) = true:=by simpa using hpi
  rw [if_pos cn]
  exact ⟨x,rfl,hl,hB,hc,fun _ _=>rfl,R9 hi h.fr h.tt hB hc hpi⟩
structure SR (n:Nat) (dues:List aK) (x q:List Int):Prop where
 len:x.length = dues.length
 lenQ:q.length = n
 bald:sL (oT dues) (pR dues) (rC dues) n dues.length (el x)
 cert:rQ (oT dues) (pR dues) (rC dues) dues.length (el x) (el q)
 lex:∀ i,i < dues.length->yB (oT dues) (pR dues) (rC dues) n dues.length (el x) i
 least:FG n ((iY dues (el x) dues.length).map bW) (el q)
theorem SR.one {x q x' q' : List Int} (h:FS n dues) (a:SR n dues x q) (b:SR n dues x' q'):x = x' ∧ q = q':=by
 have hs:fI (el x) dues.length = fI (el x') dues.length:=by
  have h1:=EG h.fr h.tt a.bald b.bald a.cert
  have h2:=EG h.fr h.tt b.bald a.bald b.cert
  omega
 have e:=aHP a.bald b.bald hs a.lex b.lex
 have e1:x = x':=BW (by rw [a.len,b.len]) fun i hi=>e i (by rw [← a.len]; exact hi)
 subst e1
 refine ⟨rfl,BW (by rw [a.lenQ,b.lenQ]) fun v hv=>a.least.one b.least (by rw [← a.lenQ]; exact hv)⟩
theorem aJb (h:FS n dues):mM n dues 0 (List.replicate dues.length (0:Int)) = some (dues.map (·.Sum)):=by
 unfold mM
 have hlen:=h.len
 suffices hh:∃ y,eW (fun (w:Int × List Int)=>eQ n dues w.1 w.2) (0,List.replicate dues.length (0:Int)) = some y ∧ y = dues.map (·.Sum) by
  obtain ⟨y,h1,h2⟩:=hh
  rw [h2] at h1; exact h1
 refine n8 (step:=fun (w:Int × List Int)=>eQ n dues w.1 w.2) (fun k (a:List Int)=>((k:Int),a)) dues.length (fun k a=>a.length = dues.length ∧ ∀ j,j < k->el a j = (el dues j).Sum) _ ?_ ?_ _ ⟨List.length_replicate,fun j hj=>absurd hj (Nat.not_lt_zero _)⟩
 ·rintro k a hk ⟨h1,h2⟩
  refine .inl ⟨a.set k (el dues k).Sum,?_,by simp [h1],fun j hj=>?_⟩
  ·show eQ n dues k a = _
   unfold eQ
   have c0:decide ((k:Int) < (dues.length:Int)) = true:=by simpa using hk
   have ck:0 <= (k:Int) ∧ (k:Int).toNat < a.length:=⟨by omega,by rw [Int.toNat_natCast]; omega⟩
   have ek:a[(k:Int).toNat]? = some (el a k):=by rw [Int.toNat_natCast]; exact E2 a k (by omega)
   have w3:IntKind.wrap .i64 ((k:Int) + 1) = ((k + 1:Nat):Int):=dL (by omega)
   simp only [if_pos c0,rG dues k hk,Option.bind_some,if_pos ck,ek,w3]
   rw [Int.toNat_natCast]
  ·rw [fP]
   by_cases e:j = k
   ·subst e; rw [if_pos ⟨rfl,by omega⟩]
   ·rw [if_neg fun q=>e q.1]; exact h2 j (by omega)
 ·rintro a ⟨h1,h2⟩
  refine ⟨a,?_,?_⟩
  ·show eQ n dues dues.length a = _
   unfold eQ
   rw [if_neg (by simp)]
  ·refine BW (by rw [h1,List.length_map]) fun j hj=>?_
   rw [h1] at hj
   rw [h2 j hj,jD (·.Sum) dues j hj]
theorem FG.cert (h:FS n dues) {x:List Int} {q:Nat->Int} (hq:FG n ((iY dues (el x) dues.length).map bW) q):rQ (oT dues) (pR dues) (rC dues) dues.length (el x) q :=
 (F9 (MQ h (el x)) q).2 hq.pot
theorem aJ9 (h:FS n dues) (hR:lI n dues = some true):∃ x q,gG n dues = some (x,q,0) ∧ SR n dues x q:=by
 have hlen:=h.len
 have hnn:=h.nn
 unfold gG
 rw [hR,Option.bind_some,if_neg (by decide),if_pos (by omega),Int.toNat_natCast,aJb h,Option.bind_some]
 obtain ⟨x0,a1,a2,a3,p0,a4⟩:=aA9 h (sums:=dues.map (·.Sum)) (by rw [List.length_map]) fun i hi=>by rw [jD (·.Sum) dues i hi]; rfl
 obtain ⟨q0,b1,b2,b3⟩:=aD1 h a2 (fun i hi=>⟨a3.lo i hi,a3.hi i hi⟩) a4
 have b4:=b3.cert h
 have hpb:∀ v,v < n->-1000 <= el q0 v ∧ el q0 v <= 1000:=fun v hv=>by have:=b3.le0 v hv; have:=b3.lo v hv; omega
 rw [a1,Option.bind_some,b1,Option.bind_some]
 have hl2:∃ x,mU n dues q0 0 x0 = some x ∧ x.length = dues.length ∧ sL (oT dues) (pR dues) (rC dues) n dues.length (el x) ∧ rQ (oT dues) (pR dues) (rC dues) dues.length (el x) (el q0) ∧ ∀ i,i < dues.length->yB (oT dues) (pR dues) (rC dues) n dues.length (el x) i:=by
  unfold mU
  refine n8 (step:=fun (w:Int × List Int)=>fB n dues q0 w.1 w.2) (fun k (a:List Int)=>((k:Int),a)) dues.length (fun k a=>a.length = dues.length ∧ sL (oT dues) (pR dues) (rC dues) n dues.length (el a) ∧ rQ (oT dues) (pR dues) (rC dues) dues.length (el a) (el q0) ∧ ∀ i,i < k->yB (oT dues) (pR dues) (rC dues) n dues.length (el a) i) _ ?_ ?_ _ ⟨a2,a3,b4,fun j hj=>absurd hj (Nat.not_lt_zero _)⟩
  ·rintro k a hk ⟨i1,i2,i3,i4⟩
   obtain ⟨x',r1,r2,r3,r4,r5,r6⟩:=aHF h b2 hpb hk i1 i2 i3
   refine .inl ⟨x',?_,r2,r3,r4,fun j hj=>?_⟩
   ·show fB n dues q0 k a = _
    unfold fB
    have c0:decide ((k:Int) < (dues.length:Int)) = true:=by simpa using hk
    rw [if_pos c0,r1,Option.bind_some,dL (by omega)]
   ·by_cases e:j = k
    ·subst e; exact r6
    ·exact (i4 j (by omega)).keep (fun j' hj'=>r5 j' (by omega)) (EG h.fr h.tt r3 i2 r4)
  ·rintro a hI
   refine ⟨a,?_,hI⟩
   show fB n dues q0 dues.length a = _
   unfold fB
   rw [if_neg (by simp)]
 obtain ⟨x,d1,d2,d3,d4,d5⟩:=hl2
 obtain ⟨q,f1,f2,f3⟩:=aD1 h d2 (fun i hi=>⟨d3.lo i hi,d3.hi i hi⟩) d4
 rw [d1,Option.bind_some,f1,Option.bind_some]
 exact ⟨x,q,rfl,d2,f2,d3,f3.cert h,d5,f3⟩
end
end Go.Proofs.Ytiimibimkpimbaa
set_option linter.unusedVariables false
set_option linter.unusedSimpArgs false
namespace Go.Proofs.Ytiimibimkpimbaa
open Go.RowKit Vm
def qE (n:Int) (d:aK):Prop:=(0 <= d.From ∧ d.From < n) ∧ (0 <= d.To ∧ d.To < n) ∧ d.From ≠ d.To ∧ 1 <= d.Sum ∧ d.Sum <= 1099511627776
instance (n:Int) (d:aK):Decidable (qE n d):=by unfold qE; exact inferInstance
def P1 (n:Int) (dues:List aK):Bool:=decide (0 <= n ∧ n <= 40) && decide (dues.length <= 100) && K7 (fun i=>decide (qE n (el dues i))) dues.length
theorem XP {n:Int} {dues:List aK}:P1 n dues = true ↔ ∃ m:Nat,n = m ∧ FS m dues:=by
 unfold P1
 rw [Bool.and_eq_true,Bool.and_eq_true,decide_eq_true_eq,decide_eq_true_eq,xD]
 constructor
 ·rintro ⟨⟨⟨h1,h2⟩,h3⟩,h4⟩
  refine ⟨n.toNat,by omega,⟨by omega,h3,fun i hi=>?_⟩⟩
  have:=of_decide_eq_true (h4 i hi)
  unfold qE at this
  omega
 ·rintro ⟨m,rfl,h⟩
  refine ⟨⟨⟨by omega,by have:=h.nn; omega⟩,h.len⟩,fun i hi=>decide_eq_true (h.each i hi)⟩
theorem aHY (n:Int) (dues:List aK):lI n dues = some (P1 n dues):=by
 unfold lI P1
 by_cases h1:0 <= n ∧ n <= 40
 ·have c1:¬ decide (n < 0) = true:=by simp; omega
  have c2:¬ decide (n > 40) = true:=by simp; omega
  rw [if_neg c1,if_neg c2,decide_eq_true h1]
  by_cases h2:dues.length <= 100
  ·have c3:¬ decide ((dues.length:Int) > 100) = true:=by simp; omega
   rw [if_neg c3,decide_eq_true h2]
   have key:mQ n dues 0 = some (if K7 (fun i=>decide (qE n (el dues i))) dues.length = true then .inl () else .inr ()):=by
    unfold mQ
    refine RL? (step:=fun w=>eZ n dues w) (fun i:Nat=>(i:Int)) dues.length (fun i=>decide (qE n (el dues i))) () ?_ ?_
    ·intro i hi
     show eZ n dues i = _
     unfold eZ
     have w3:IntKind.wrap .i64 ((i:Int) + 1) = ((i + 1:Nat):Int):=dL (by omega)
     have c0:decide ((i:Int) < (dues.length:Int)) = true:=by simpa using hi
     simp only [if_pos c0,rG dues i hi,Option.bind_some,w3]
     simp only [decide_eq_true_eq,beq_iff_eq]
     generalize el dues i = d
     by_cases a1:d.From < 0
     ·have hno:¬ qE n d:=by unfold qE; omega
      rw [if_pos a1,if_neg hno]
     rw [if_neg a1]
     by_cases a2:d.From ≥ n
     ·have hno:¬ qE n d:=by unfold qE; omega
      rw [if_pos a2,if_neg hno]
     rw [if_neg a2]
     by_cases a3:d.To < 0
     ·have hno:¬ qE n d:=by unfold qE; omega
      rw [if_pos a3,if_neg hno]
     rw [if_neg a3]
     by_cases a4:d.To ≥ n
     ·have hno:¬ qE n d:=by unfold qE; omega
      rw [if_pos a4,if_neg hno]
     rw [if_neg a4]
     by_cases a5:d.From = d.To
     ·have hno:¬ qE n d:=by unfold qE; omega
      rw [if_pos a5,if_neg hno]
     rw [if_neg a5]
     by_cases a6:d.Sum < 1
     ·have hno:¬ qE n d:=by unfold qE; omega
      rw [if_pos a6,if_neg hno]
     rw [if_neg a6]
     by_cases a7:d.Sum > 1099511627776
     ·have hno:¬ qE n d:=by unfold qE; omega
      rw [if_pos a7,if_neg hno]
     rw [if_neg a7,if_pos (show qE n d by unfold qE; omega)]
    ·show eZ n dues dues.length = _
     unfold eZ
     rw [if_neg (by simp)]
   rw [key,Option.bind_some]
   cases K7 (fun i=>decide (qE n (el dues i))) dues.length <;> rfl
  ·have c3:decide ((dues.length:Int) > 100) = true:=by simp; omega
   rw [if_pos c3,decide_eq_false h2]; rfl
 ·rw [decide_eq_false h1]
  by_cases h2:n < 0
  ·rw [if_pos (decide_eq_true h2)]; rfl
  ·have c1:¬ decide (n < 0) = true:=by simpa using h2
   have c2:decide (n > 40) = true:=by simp; omega
   rw [if_neg c1,if_pos c2]; rfl
def ZQ (x:List Int):Bool:=K7 (fun i=>decide (0 <= el x i ∧ el x i <= 1099511627776)) x.length
def QP (x:List Int):Int:=if x.length <= 100 ∧ ZQ x = true then fI (el x) x.length else 0
theorem L3 {g:Nat->Int} {B:Int} (hB:0 <= B):∀ k,(∀ i,i < k->0 <= g i ∧ g i <= B)->0 <= fI g k ∧ fI g k <= (k:Int) * B
 | 0,_=>by simp [fI]
 | k + 1,h=>by
  have:=L3 hB k fun i hi=>h i (by omega)
  have hk:=h k (by omega)
  show 0 <= fI g k + g k ∧ fI g k + g k <= ((k + 1:Nat):Int) * B
  rw [show ((k + 1:Nat):Int) = (k:Int) + 1 by omega,Int.add_mul,Int.one_mul]
  omega
theorem aFG (x:List Int):nE x = some (QP x):=by
 unfold nE QP
 by_cases h2:x.length <= 100
 ·have c3:¬ decide ((x.length:Int) > 100) = true:=by simp; omega
  rw [if_neg c3]
  unfold pI
  obtain ⟨z,h1,h3⟩:=n8 (step:=fun (w:Int × Int)=>dV x w.1 w.2) (fun k (a:Int)=>(a,(k:Int))) x.length (fun k a=>a = fI (el x) k ∧ ∀ i,i < k->0 <= el x i ∧ el x i <= 1099511627776)
   (fun z=>(z = .inl (fI (el x) x.length) ∧ ZQ x = true) ∨ (z = .inr () ∧ ZQ x = false)) (by
    rintro k a hk ⟨rfl,hI⟩
    have hb:=L3 (g:=el x) (B:=1099511627776) (by omega) k hI
    have c0:decide ((k:Int) < (x.length:Int)) = true:=by simpa using hk
    have w3:IntKind.wrap .i64 ((k:Int) + 1) = ((k + 1:Nat):Int):=dL (by omega)
    by_cases hx:0 <= el x k ∧ el x k <= 1099511627776
    ·refine .inl ⟨fI (el x) (k + 1),?_,rfl,fun i hi=>?_⟩
     ·show dV x (fI (el x) k) k = _
      unfold dV
      have hk2:(k:Int) * 1099511627776 <= 100 * 1099511627776:=by omega
      have d1:¬ decide (el x k < 0) = true:=by simp; omega
      have d2:¬ decide (el x k > 1099511627776) = true:=by simp; omega
      rw [if_pos c0,rG x k hk,Option.bind_some,if_neg d1,if_neg d2,j5 (by omega) (by omega),w3]
      rfl
     ·by_cases e:i = k
      ·subst e; exact hx
      ·exact hI i (by omega)
    ·refine .inr ⟨.inr (),?_,.inr ⟨rfl,?_⟩⟩
     ·show dV x (fI (el x) k) k = _
      unfold dV
      rw [if_pos c0,rG x k hk,Option.bind_some]
      by_cases d1:el x k < 0
      ·rw [if_pos (decide_eq_true d1)]
      ·have d2:decide (el x k > 1099511627776) = true:=by simp; omega
       rw [if_neg (by simpa using d1),if_pos d2]
     ·rw [← Bool.not_eq_true,ZQ,xD]
      exact fun q=>hx (of_decide_eq_true (q k hk))) (by
    rintro a ⟨rfl,hI⟩
    refine ⟨.inl (fI (el x) x.length),?_,.inl ⟨rfl,xD.2 fun i hi=>decide_eq_true (hI i hi)⟩⟩
    show dV x _ x.length = _
    unfold dV
    rw [if_neg (by simp)]) 0 ⟨rfl,fun i hi=>absurd hi (Nat.not_lt_zero _)⟩
  rw [show ((0:Nat):Int) = 0 from rfl] at h1
  rw [h1,Option.bind_some]
  rcases h3 with ⟨rfl,h⟩ | ⟨rfl,h⟩
  ·rw [if_pos ⟨h2,h⟩]; rfl
  ·rw [if_neg (by rw [h]; simp)]; rfl
 ·have c3:decide ((x.length:Int) > 100) = true:=by simp; omega
  rw [if_pos c3,if_neg (fun q=>h2 q.1)]
theorem WA {n:Nat} {dues:List aK} (h:FS n dues) {x:List Int} (hl:x.length = dues.length) (hB:sL (oT dues) (pR dues) (rC dues) n dues.length (el x)):QP x = fI (el x) dues.length:=by
 unfold QP
 rw [if_pos,hl]
 refine ⟨by have:=h.len; omega,xD.2 fun i hi=>decide_eq_true ?_⟩
 rw [hl] at hi
 have a:=hB.lo i hi
 have b:=hB.hi i hi
 have c:=h.each i hi
 unfold rC at b
 omega
end Go.Proofs.Ytiimibimkpimbaa
set_option linter.unusedVariables false
set_option linter.unusedSimpArgs false
namespace Go.Proofs.Ytiimibimkpimbaa
open Go.RowKit Vm
section
variable {n:Nat} {dues:List aK} {x q:List Int}
structure aMR (n:Nat) (dues:List aK) (x q:List Int):Prop where
 len:x.length = dues.length
 lenQ:q.length = n
 bald:sL (oT dues) (pR dues) (rC dues) n dues.length (el x)
 rng:∀ v,v < n->-40 <= el q v ∧ el q v <= 40
 cert:rQ (oT dues) (pR dues) (rC dues) dues.length (el x) (el q)
end
end Go.Proofs.Ytiimibimkpimbaa
