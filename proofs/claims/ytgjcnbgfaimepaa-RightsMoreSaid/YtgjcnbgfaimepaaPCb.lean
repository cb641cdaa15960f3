/- Clearing: balancing ends balanced, and best. Clearing: the potentials are the least costs of steps. Clearing: raising one due. Clearing: what Clear returns. Clearing: what Right, Total, Balanced and Proves say. Clearing: what Balanced and Proves say. -/
import Derived.Test.YtgjcnbgfaimepaaPCa
set_option linter.unusedVariables false
set_option linter.unusedSimpArgs false
namespace Go.Proofs.Ytgjcnbgfaimepaa
open Go.RowKit Vm
section
variable {n:Nat} {dues:List aF} {sums:List Int}
def Z8 (n:Nat) (dues:List aF) (x:Nat->Int):Int:=dH (fun v=>if 0 < netF (nH dues) (pR dues) dues.length x v then netF (nH dues) (pR dues) dues.length x v else 0) n
theorem VT (x:Nat->Int):0 <= Z8 n dues x:=M7 fun v _=>by split <;> omega
theorem aD0 {x y:Nat->Int} {u v:Nat} {d:Int} (hu:u < n) (hd:0 < d) (h1:d <= netF (nH dues) (pR dues) dues.length x u) (h2:d <= -netF (nH dues) (pR dues) dues.length x v)
  (h:∀ z,netF (nH dues) (pR dues) dues.length y z = netF (nH dues) (pR dues) dues.length x z + (if v = z then d else 0) - (if u = z then d else 0)):Z8 n dues y = Z8 n dues x - d:=by
 have hne:¬ v = u:=fun e=>by subst e; omega
 unfold Z8
 rw [gM (h:=fun z=>(if 0 < netF (nH dues) (pR dues) dues.length x z then netF (nH dues) (pR dues) dues.length x z else 0) - (if z = u then d else 0)) fun z _=>?_,zY,KY hu]
 rw [h z]
 by_cases e1:z = u
 ·subst e1
  rw [if_neg hne,if_pos rfl]
  split <;> split <;> omega
 ·rw [if_neg (fun q:u = z=>e1 q.symm),if_neg e1]
  by_cases e2:v = z
  ·subst e2
   rw [if_pos rfl]
   split <;> split <;> omega
  ·rw [if_neg e2]
   simp
theorem aCG {l:List aC} {k:Nat} (hk:k < l.length):(el (l.map aV) k).most = (el l k).most:=by rw [fN aV l k hk]; rfl
theorem aHh (h:IW n dues) (x:Nat->Int):∀ g ∈ gI dues x dues.length,0 <= g.due ∧ g.due < (dues.length:Nat):=by
 intro g hg
 obtain ⟨i,b,hi,rfl,_⟩:=wM.1 hg
 simp only [FZ]
 omega
theorem UH (h:IW n dues) {too x:List Int} (hto:too = OT n dues (el x)) (hl:x.length = dues.length) (hr:InR (sM dues) dues.length (el x)) {p:Nat->Int} (hp:s0 (nH dues) (pR dues) (sM dues) dues.length (el x) p) :
  (∃ too' x',cO n dues too x = some (.inl (too',x')) ∧ too' = OT n dues (el x') ∧ x'.length = dues.length ∧ InR (sM dues) dues.length (el x') ∧ (∃ p',s0 (nH dues) (pR dues) (sM dues) dues.length (el x') p') ∧ (Z8 n dues (el x')).toNat < (Z8 n dues (el x)).toNat) ∨
  (cO n dues too x = some (.inr x) ∧ u9 (nH dues) (pR dues) (sM dues) n dues.length (el x)):=by
 have S:=PQ h (el x)
 have hpot:=(KW S p).1 hp
 have hlen:=h.len
 have hnn:=h.nn
 have hst:=UQ h hl hr
 have hok:=QU h (el x)
 have hll:=AP dues (el x) dues.length
 have htl:too.length = n:=by rw [hto,PA]
 have hte:∀ v,v < n->el too v = netF (nH dues) (pR dues) dues.length (el x) v:=fun v hv=>by rw [hto,T2 _ hv]
 have hdue:=aHh h (el x)
 generalize gI dues (el x) dues.length = l at *
 obtain ⟨best,last,q1,q2,q3,T⟩:=aCI (n:=n) (by omega) hok (by omega) htl hpot
 obtain ⟨e,r1,r2⟩:=aRe (sums:=x) (dues:=dues) (by omega:n <= 1000) htl q2 last l
 rcases r2 with ⟨rfl,r2⟩ | ⟨v,rfl,hv,hv1,hv2⟩
 ·refine .inr ⟨?_,?_⟩
  ·unfold cO
   rw [hst,Option.bind_some,q1,Option.bind_some,r1,Option.bind_some,if_pos (by decide)]
  ·refine WC (F:=fun v=>(el best v).fine) (q:=fun v=>(el best v).c) (μ:=fun v=>(el best v).k.toNat) (last:=last) S h.fr h.tt hr ⟨fun w hw hF=>?_,T.closed,fun w hw hR=>T.root w hw ?_⟩ fun w hw hneg=>r2 w hw (by rw [hte w hw]; exact hneg)
   ·rcases T.tree w hw hF with ⟨t1,t2⟩ | t
    ·exact .inl ⟨t1,by have:=of_decide_eq_true t2; rw [hte w hw] at this; exact this⟩
    ·exact .inr t
   ·rw [hte w hw]; exact decide_eq_true hR
 ·obtain ⟨ks,u,w,hu,hRu,hFu,hk⟩:=T.path _ v (Nat.lt_succ_self _) hv hv2
  have hu1:=of_decide_eq_true hRu
  have hkl:∀ k ∈ ks,k < l.length:=fun k hks=>by have:=(hk k hks).1; rwa [List.length_map] at this
  obtain ⟨_,hnd⟩:=w.dues S (μ:=fun v=>(el best v).k.toNat) fun k hks=>⟨(hk k hks).1,(hk k hks).2.2.2.1⟩
  have hksl:ks.length <= 100:=by
   have:=ON dues.length _ hnd (fun z hz=>by
    obtain ⟨k,hks,rfl⟩:=List.mem_map.1 hz
    rw [fN aV l k (hkl k hks)]
    have:=hdue (el l k) (by rw [show el l k = l[k]'(hkl k hks) from by simp [el,hkl k hks]]; exact List.getElem_mem _)
    show (el l k).due.toNat < _
    omega)
   rw [List.length_map] at this
   omega
  have hpos:∀ k ∈ ks,0 < (el l k).most:=fun k hks=>by
   obtain ⟨i,b,_,_,hm,e⟩:=S.sound k (hk k hks).1
   rw [← aCG (hkl k hks),e]; exact hm
  have hbnd:∀ z,z < n->-(100 * 1099511627776) <= el too z ∧ el too z <= 100 * 1099511627776:=fun z hz=>by
   rw [hte z hz]
   have:=JZ (fr:=nH dues) (tt:=pR dues) (x:=el x) (S:=1099511627776) (by omega) dues.length (fun i hi=>by have:=hr i hi; have:=h.each i hi; unfold sM at *; omega) z
   have:(dues.length:Int) * 1099511627776 <= 100 * 1099511627776:=by omega
   omega
  have bv:=hbnd v hv
  have bu:=hbnd u hu
  have hneg0:IntKind.wrap .i64 (0 - el too v) = -el too v:=by rw [jS (by omega) (by omega)]; omega
  have hmm:=UT l ks (-el too v)
  have hmp:=QD l ks (-el too v) (by omega) hpos
  have w1:=aEQ hok q3 n dues too x (best.map lA) v w hv (-el too v)
  generalize hmv:PF l (-el too v) ks = mm at *
  have hd:0 < (if el too u < mm then el too u else mm) ∧ (if el too u < mm then el too u else mm) <= mm ∧ (if el too u < mm then el too u else mm) <= el too u:=by split <;> omega
  have w2:=aF0 hok q3 (m:=dues.length) hdue n dues too (best.map lA) v (mm,(u:Int)) (el too u) (D:=100 * 1099511627776) (by omega) (by omega) w hv x 1099511627776 hl (fun i=>by
   by_cases hi:i < dues.length
   ·have:=hr i hi; have:=h.each i hi; unfold sM at *; omega
   ·rw [show el x i = 0 by simp [el,show ¬ i < x.length by omega]]; omega) (by
   have:(ks.length:Int) * (100 * 1099511627776) <= 100 * (100 * 1099511627776):=Int.mul_le_mul_of_nonneg_right (by omega) (by omega)
   omega)
  dsimp only at w2
  generalize hde:(if el too u < mm then el too u else mm) = d at *
  obtain ⟨m1,m2,m3,m4⟩:=TJ hl S h.fr h.tt hr hp (F:=fun v=>(el best v).fine) T w (fun k hks=>⟨(hk k hks).1,(hk k hks).2.1,(hk k hks).2.2.1,(hk k hks).2.2.2.1,(hk k hks).2.2.2.2.2⟩) (d:=d) (by omega) (fun k hks=>by rw [aCG (hkl k hks)]; have:=hmm.2 k hks; omega)
  have hne:¬ v = u:=fun e=>by subst e; omega
  refine .inl ⟨OT n dues (el (B2 (l.map aV) d x ks)),B2 (l.map aV) d x ks,?_,rfl,m1,m2,m3,?_⟩
  ·unfold cO
   have cn:¬ decide ((v:Int) < 0) = true:=by simp
   have cv:0 <= (v:Int) ∧ (v:Int).toNat < too.length:=⟨by omega,by rw [Int.toNat_natCast]; omega⟩
   have cu:0 <= (u:Int) ∧ (u:Int).toNat < too.length:=⟨by omega,by rw [Int.toNat_natCast]; omega⟩
   have ev:too[(v:Int).toNat]? = some (el too v):=by rw [Int.toNat_natCast]; exact HE too v (by omega)
   have eu:too[(u:Int).toNat]? = some (el too u):=by rw [Int.toNat_natCast]; exact HE too u (by omega)
   have wu:IntKind.wrap .i64 (el too u - d) = el too u - d:=jS (by omega) (by omega)
   have wv:IntKind.wrap .i64 (el too v + d) = el too v + d:=jS (by omega) (by omega)
   have cv2:0 <= (v:Int) ∧ (v:Int).toNat < (too.set (u:Int).toNat (el too u - d)).length:=⟨by omega,by rw [List.length_set,Int.toNat_natCast]; omega⟩
   have ev2:(too.set (u:Int).toNat (el too u - d))[(v:Int).toNat]? = some (el too v):=by
    rw [Int.toNat_natCast,Int.toNat_natCast,HE _ _ (by rw [List.length_set]; omega),c8,if_neg fun q=>hne q.1]
   simp only [hst,q1,r1,Option.bind_some,if_neg cn,if_pos cv,ev,hneg0,w1,if_pos cu,eu,hde,w2,wu,if_pos cv2,ev2,wv]
   congr 3
   refine DV (by rw [List.length_set,List.length_set,htl,PA]) fun z hz=>?_
   rw [List.length_set,List.length_set,htl] at hz
   rw [T2 _ hz,m4 z,c8,c8,Int.toNat_natCast,Int.toNat_natCast,List.length_set,htl,← hte z hz]
   by_cases e1:z = v
   ·subst e1
    have hzu:¬ u = z:=fun q=>hne q.symm
    rw [if_pos ⟨rfl,hz⟩,if_pos rfl,if_neg hzu]; omega
   ·have hvz:¬ v = z:=fun q=>e1 q.symm
    have hc1:¬ (z = v ∧ v < n):=fun q=>e1 q.1
    by_cases e2:z = u
    ·subst e2
     rw [if_neg hc1,if_neg hvz,if_pos ⟨rfl,hz⟩,if_pos rfl]; omega
    ·have huz:¬ u = z:=fun q=>e2 q.symm
     have hc2:¬ (z = u ∧ u < n):=fun q=>e2 q.1
     rw [if_neg hc1,if_neg hvz,if_neg hc2,if_neg huz]; omega
  ·have h1:=aD0 (dues:=dues) (x:=el x) (y:=el (B2 (l.map aV) d x ks)) hu (by omega:0 < d) (by rw [← hte u hu]; omega) (by rw [← hte v hv]; omega) m4
   have h2:=VT (n:=n) (dues:=dues) (el (B2 (l.map aV) d x ks))
   omega
theorem aEU (h:IW n dues) (hl:sums.length = dues.length) (hfull:∀ i,i < dues.length->el sums i = sM dues i):∃ x,jW n dues sums = some x ∧ x.length = dues.length ∧ u9 (nH dues) (pR dues) (sM dues) n dues.length (el x) ∧ ∃ p,s0 (nH dues) (pR dues) (sM dues) dues.length (el x) p:=by
 have hr:InR (sM dues) dues.length (el sums):=fun i hi=>by have:=h.each i hi; have:=hfull i hi; unfold sM at *; omega
 have hnn:=h.nn
 have hc:s0 (nH dues) (pR dues) (sM dues) dues.length (el sums) fun _=>0:=fun i hi=>⟨fun c=>by rw [hfull i hi] at c; omega,fun _=>by show (0:Int) <= 0 + 1; omega⟩
 unfold jW
 rw [if_pos (by omega),Int.toNat_natCast,aP8 h hl hr,Option.bind_some]
 unfold mX
 obtain ⟨x,h1,h2⟩:=S3 (step:=fun (w:List Int × List Int)=>cO n dues w.1 w.2) (fun w=>w.1 = OT n dues (el w.2) ∧ w.2.length = dues.length ∧ InR (sM dues) dues.length (el w.2) ∧ ∃ p,s0 (nH dues) (pR dues) (sM dues) dues.length (el w.2) p) (fun w=>(Z8 n dues (el w.2)).toNat)
  (fun x=>x.length = dues.length ∧ u9 (nH dues) (pR dues) (sM dues) n dues.length (el x) ∧ ∃ p,s0 (nH dues) (pR dues) (sM dues) dues.length (el x) p) (fun w ⟨i1,i2,i3,p,i4⟩=>by
   rcases UH h i1 i2 i3 i4 with ⟨too',x',s1,s2,s3,s4,s5,s6⟩ | ⟨s1,s2⟩
   ·exact .inl ⟨(too',x'),s1,⟨s2,s3,s4,s5⟩,s6⟩
   ·exact .inr ⟨_,s1,i2,s2,p,i4⟩) (OT n dues (el sums),sums) ⟨rfl,hl,hr,_,hc⟩
 rw [h1]
 exact ⟨x,rfl,h2⟩
end
end Go.Proofs.Ytgjcnbgfaimepaa
namespace Go.Proofs.Ytgjcnbgfaimepaa
open Go.RowKit Vm
def mP (a b:Int):Bool:=decide (a < b)
def yE (a:Int) (s:eN):Int:=a + s.cost
def aEk (a c:Int) (k:Nat):Int:=a + c
theorem P2 (a b:Int):mP a b = false ↔ b <= a:=by simp [mP]
theorem aS4:aJZ mP yE where
 irr a:=by simp [mP]
 asym a b h:=by simp [mP] at *; omega
 neg a b c h1 h2:=by simp [mP] at *; omega
 mono a b s h:=by simp [mP,yE] at *; omega
theorem aRb (cst:eN->Int) (hc:∀ s,cst s = s.cost):aFG mP yE cst aEk where
 zero a:=by simp [aEk]
 step a c k s:=by
  rw [hc]
  simp only [aEk,yE]
  omega
 le a c k c' k' h:=by
  unfold GE
  rw [P2]
  simp only [aEk]
  omega
def QX (n:Nat) (B:Int) (best:List Int):Prop:=∀ v,v < n->-B <= el best v ∧ el best v <= B
theorem LE {n:Nat} {l:List aC} {best:List Int} {last:List Int} {B:Int} (hl:∀ g ∈ l,H6 n g) (hb:best.length = n) (hla:last.length = n) (h:QX n B best) (hB:0 <= B):∀ k,k <= l.length ->
  (((List.range k).foldl (fW mP yE eN.src eN.dst (l.map aV)) (best,last,false)).1.length = n ∧ ((List.range k).foldl (fW mP yE eN.src eN.dst (l.map aV)) (best,last,false)).2.1.length = n ∧ QX n (B + k) ((List.range k).foldl (fW mP yE eN.src eN.dst (l.map aV)) (best,last,false)).1):=by
 intro k
 induction k with
 | zero=>intro _; exact ⟨hb,hla,by simpa using h⟩
 | succ k ih =>
  intro hk
  obtain ⟨h1,h2,h3⟩:=ih (by omega)
  rw [List.range_succ,List.foldl_append,List.foldl_cons,List.foldl_nil]
  generalize (List.range k).foldl (fW mP yE eN.src eN.dst (l.map aV)) (best,last,false) = z at *
  have hg:=hl (el l k) (by rw [show el l k = l[k] from by simp [el,show k < l.length by omega]]; exact List.getElem_mem _)
  obtain ⟨⟨g1,g2⟩,⟨g3,g4⟩,g5,g6⟩:=hg
  have hmono:QX n (B + (k + 1:Nat)) z.1:=fun v hv=>by have:=h3 v hv; omega
  unfold fW
  rw [fN aV l k (by omega)]
  split
  ·refine ⟨by simp [h1],by simp [h2],fun v hv=>?_⟩
   dsimp only
   rw [c8]
   split
   ·have:=h3 (el l k).from_.toNat (by omega)
    simp only [yE,aV,eN.src]
    omega
   ·exact hmono v hv
  ·exact ⟨h1,h2,hmono⟩
theorem aED (a b:Int):qA a b = some (mP a b):=by
 unfold qA nR
 simp [mP]
theorem aBM {n:Nat} {l:List aC} {best:List Int} {last:List Int} {B:Int} (hl:∀ g ∈ l,H6 n g) (hb:best.length = n) (hla:last.length = n) (h:QX n B best) (hB:0 <= B) (hBl:B + l.length <= 4611686018427387904) :
  gW l false 0 best last = some ((n8 mP yE eN.src eN.dst (l.map aV) best last).2.2,(n8 mP yE eN.src eN.dst (l.map aV) best last).1,(n8 mP yE eN.src eN.dst (l.map aV) best last).2.1):=by
 unfold gW n8
 rw [List.length_map]
 suffices hh:∃ x,dO (fun (w:Bool × Int × List Int × List Int)=>cE l w.1 w.2.1 w.2.2.1 w.2.2.2) (false,0,best,last) = some x ∧ x = (((List.range l.length).foldl (fW mP yE eN.src eN.dst (l.map aV)) (best,last,false)).2.2,((List.range l.length).foldl (fW mP yE eN.src eN.dst (l.map aV)) (best,last,false)).1,((List.range l.length).foldl (fW mP yE eN.src eN.dst (l.map aV)) (best,last,false)).2.1) by
  obtain ⟨x,h1,h2⟩:=hh
  rw [h2] at h1; exact h1
 refine iM (step:=fun (w:Bool × Int × List Int × List Int)=>cE l w.1 w.2.1 w.2.2.1 w.2.2.2) (fun k (a:List Int × List Int × Bool)=>(a.2.2,(k:Int),a.1,a.2.1)) l.length
  (fun k a=>a = (List.range k).foldl (fW mP yE eN.src eN.dst (l.map aV)) (best,last,false)) (fun x=>x = (((List.range l.length).foldl (fW mP yE eN.src eN.dst (l.map aV)) (best,last,false)).2.2,((List.range l.length).foldl (fW mP yE eN.src eN.dst (l.map aV)) (best,last,false)).1,((List.range l.length).foldl (fW mP yE eN.src eN.dst (l.map aV)) (best,last,false)).2.1)) ?_ ?_ (best,last,false) rfl
 ·rintro k a hk rfl
  refine .inl ?_
  obtain ⟨q1,q2,q3⟩:=LE hl hb hla h hB k (by omega)
  rw [List.range_succ,List.foldl_append,List.foldl_cons,List.foldl_nil]
  generalize (List.range k).foldl (fW mP yE eN.src eN.dst (l.map aV)) (best,last,false) = z at *
  have hg:=hl (el l k) (by rw [show el l k = l[k] from by simp [el,hk]]; exact List.getElem_mem _)
  obtain ⟨⟨g1,g2⟩,⟨g3,g4⟩,g5,g6⟩:=hg
  refine ⟨_,?_,rfl⟩
  unfold cE
  have e1:z.1[(el l k).from_.toNat]? = some (el z.1 (el l k).from_.toNat):=HE z.1 _ (by omega)
  have e2:z.1[(el l k).to.toNat]? = some (el z.1 (el l k).to.toNat):=HE z.1 _ (by omega)
  have b:=q3 (el l k).from_.toNat (by omega)
  have c0:decide ((k:Int) < (l.length:Int)) = true:=by simpa using hk
  have ck:0 <= (k:Int) ∧ (k:Int).toNat < l.length:=⟨by omega,by rw [Int.toNat_natCast]; omega⟩
  have ek:l[(k:Int).toNat]? = some (el l k):=by rw [Int.toNat_natCast]; exact HE l k hk
  have cF:0 <= (el l k).from_ ∧ (el l k).from_.toNat < z.1.length:=⟨g1,by omega⟩
  have cT:0 <= (el l k).to ∧ (el l k).to.toNat < z.1.length:=⟨g3,by omega⟩
  have cL:0 <= (el l k).to ∧ (el l k).to.toNat < z.2.1.length:=⟨g3,by omega⟩
  have ho:fM (el z.1 (el l k).from_.toNat) (el l k) = some (yE (el z.1 (el l k).from_.toNat) (aV (el l k))):=by
   unfold fM
   rw [jS (by omega) (by omega)]
   rfl
  have w3:IntKind.wrap .i64 ((k:Int) + 1) = ((k + 1:Nat):Int):=cD (by omega)
  have eL:z.2.1[(el l k).to.toNat]? = some (el z.2.1 (el l k).to.toNat):=HE z.2.1 _ (by omega)
  simp only [if_pos c0,if_pos ck,ek,Option.bind_some,if_pos cF,e1,ho,if_pos cT,e2,aED,w3,if_pos cL,eL]
  unfold fW
  rw [fN aV l k hk]
  have e3:eN.src (aV (el l k)) = (el l k).from_.toNat:=rfl
  have e4:eN.dst (aV (el l k)) = (el l k).to.toNat:=rfl
  rw [e3,e4]
  split
  ·rfl
  ·rfl
 ·rintro a rfl
  refine ⟨_,?_,rfl⟩
  unfold cE
  rw [if_neg (by simp)]
theorem R8 {n:Nat} {l:List aC} (hl:∀ g ∈ l,H6 n g):∀ (f:Nat) (best:List Int) (last:List Int) (B:Int) (b:List Int) (la:List Int),best.length = n->last.length = n->QX n B best->0 <= B->B + (f * l.length:Nat) <= 4611686018427387904 ->
  RB mP yE eN.src eN.dst (l.map aV) f best last = some (b,la)->gT l true best last = some (b,la)
 | 0,best,last,B,b,la,_,_,_,_,_,h=>by cases h
 | f + 1,best,last,B,b,la,hb,hla,hB,hB0,hBf,h=>by
  have hmul:(f + 1) * l.length = f * l.length + l.length:=Nat.succ_mul f l.length
  have hr:=aBM hl hb hla hB hB0 (by omega)
  obtain ⟨q1,q2,q3⟩:=LE hl hb hla hB hB0 l.length (Nat.le_refl _)
  have e0:n8 mP yE eN.src eN.dst (l.map aV) best last = (List.range l.length).foldl (fW mP yE eN.src eN.dst (l.map aV)) (best,last,false):=by unfold n8; rw [List.length_map]
  rw [← e0] at q1 q2 q3
  simp only [RB] at h
  generalize n8 mP yE eN.src eN.dst (l.map aV) best last = z at *
  unfold gT
  rw [nX (s':=(z.2.2,z.1,z.2.1)) (by unfold d8; rw [if_pos rfl,hr]; rfl)]
  split at h
  ·rename_i hc
   rw [hc]
   exact R8 hl f z.1 z.2.1 (B + l.length) b la q1 q2 q3 (by omega) (by omega) h
  ·rename_i hc
   cases h
   exact kX (by unfold d8; exact if_neg hc)
theorem N1.cost_ge {l:List eN} (hc:∀ i,i < l.length->-1 <= (el l i).cost) {u k v:Nat} {c:Int} (w:N1 eN.src eN.dst eN.cost l u k c v):-(k:Int) <= c:=by
 induction w with
 | zero=>omega
 | step i hi _ ih=>have:=hc i hi; omega
structure IY (n:Nat) (l:List eN) (q:Nat->Int):Prop where
 le0:∀ v,v < n->q v <= 0
 lo:∀ v,v < n->-(n:Int) + 1 <= q v
 pot:Pot eN.src eN.dst eN.cost l q
 wk:∀ v,v < n->∃ u k,u < n ∧ N1 eN.src eN.dst eN.cost l u k (q v) v
 le:∀ u k c v,u < n->N1 eN.src eN.dst eN.cost l u k c v->q v <= c
theorem IY.one {n:Nat} {l:List eN} {q q' : Nat->Int} (h:IY n l q) (h' : IY n l q') {v:Nat} (hv:v < n):q v = q' v:=by
 obtain ⟨u,k,hu,w⟩:=h.wk v hv
 obtain ⟨u',k',hu',w'⟩:=h'.wk v hv
 have a:=h.le u' k' _ v hu' w'
 have b:=h'.le u k _ v hu w
 omega
theorem aKZ {n:Nat} {dues:List aF} {x:List Int} (h:IW n dues) (hl:x.length = dues.length) (hr:InR (sM dues) dues.length (el x)) {p:Nat->Int} (hp:s0 (nH dues) (pR dues) (sM dues) dues.length (el x) p) :
  ∃ q,d7 n dues x = some q ∧ q.length = n ∧ IY n ((gI dues (el x) dues.length).map aV) (el q):=by
 have S:=PQ h (el x)
 have hpot:=(KW S p).1 hp
 have hlen:=h.len
 have hnn:=h.nn
 have hst:=UQ h hl hr
 have hok:=QU h (el x)
 have hll:=AP dues (el x) dues.length
 have hs:=S.in_ h.fr h.tt
 generalize gI dues (el x) dues.length = l at *
 have hi:∀ v,v < n->el (List.replicate n (0:Int)) v = 0:=fun v hv=>kV _ _ _ hv
 obtain ⟨q,la,h1,h2,h3,h4⟩:=aCM aS4 (aRb eN.cost fun _=>rfl) hpot (init:=List.replicate n (0:Int)) (by rw [List.length_replicate]; exact hs) (fuel:=n + 1) (by rw [List.length_replicate]; exact Nat.le_refl _)
 rw [List.length_replicate] at h1 h4
 have hmul:(n + 1) * l.length <= 1001 * 100000:=Nat.mul_le_mul (by omega) (by omega)
 have hq:∀ v,v < n->∃ u k,u < n ∧ N1 eN.src eN.dst eN.cost (l.map aV) u k (el q v) v:=by
  intro v hv
  obtain ⟨k,w⟩:=h2.wk v (by rw [List.length_replicate]; exact hv)
  obtain ⟨u,c,hu,hw,e⟩:=aOY (aRb eN.cost fun _=>rfl) w
  rw [List.length_replicate] at hu
  rw [hi u hu] at e
  have e:el q v = c:=by simpa [aEk] using e
  rw [e]
  exact ⟨u,k,hu,hw⟩
 have hle:∀ u k c v,u < n->N1 eN.src eN.dst eN.cost (l.map aV) u k c v->el q v <= c:=by
  intro u k c v hu w
  have:=h4 u k c v hu w
  unfold GE at this
  rw [P2,hi u hu] at this
  simpa [aEk] using this
 refine ⟨q,?_,by rw [h2.len,List.length_replicate],⟨fun v hv=>hle v 0 0 v hv .zero,fun v hv=>?_,fun i hi'=>?_,hq,hle⟩⟩
 ·unfold d7
  rw [if_pos (by omega),hst,Option.bind_some,Int.toNat_natCast,List.length_replicate,aPf (by omega),Option.bind_some,R8 hok (n + 1) _ _ 0 q la List.length_replicate List.length_replicate (fun v hv=>by rw [hi v hv]; omega) (Int.le_refl _) (by omega) h1]
  rfl
 ·obtain ⟨u,k,hu,w⟩:=hq v hv
  obtain ⟨j,c',hj,w',hc⟩:=w.short hpot hs hu
  have:=hle u j c' v hu w'
  have hge:=w'.cost_ge fun i hi'=>by
   rw [List.length_map] at hi'
   rw [fN aV l i hi']
   exact (hok (el l i) (by rw [show el l i = l[i] from by simp [el,hi']]; exact List.getElem_mem _)).2.2.1
  omega
 ·have:=h3 i hi'
  unfold GE at this
  rw [P2] at this
  exact this
end Go.Proofs.Ytgjcnbgfaimepaa
namespace Go.Proofs.Ytgjcnbgfaimepaa
open Go.RowKit Vm
theorem aME {α:Type} [Inhabited α] (l:List α) {k:Nat} (h:k < l.length):l.take (k + 1) = l.take k ++ [el l k]:=by
 rw [List.take_add_one,HE l k h]; rfl
def CH (p:List Int) (i:Nat) (g:aC):Bool:=decide ((i:Int) < g.due) && decide (el p g.to.toNat = el p g.from_.toNat + g.cost)
def zcG (g:aC):aC:=aC.mk g.due g.from_ g.to 0 g.most g.back
section
variable {n:Nat} {dues:List aF} {p:List Int} {l:List aC}
theorem aMN (hl:∀ g ∈ l,H6 n g) (hll:l.length <= 100000) (hp:p.length = n) (hpb:∀ v,v < n->-1000 <= el p v ∧ el p v <= 1000) (i:Nat) (x:List Int):lE n dues p i x l 0 [] = some (l.filter (CH p i)):=by
 unfold lE
 suffices hh:∃ y,dO (fun (w:Int × List aC)=>cX n dues p i x l w.1 w.2) (0,[]) = some y ∧ y = l.filter (CH p i) by
  obtain ⟨y,h1,h2⟩:=hh
  rw [h2] at h1; exact h1
 refine iM (step:=fun (w:Int × List aC)=>cX n dues p i x l w.1 w.2) (fun k (a:List aC)=>((k:Int),a)) l.length (fun k a=>a = (l.take k).filter (CH p i)) _ ?_ ?_ _ (by simp)
 ·rintro k a hk rfl
  refine .inl ⟨_,?_,rfl⟩
  have hlen:((l.take k).filter (CH p i)).length <= 100000:=Nat.le_trans (List.length_filter_le _ _) (by rw [List.length_take]; omega)
  obtain ⟨⟨g1,g2⟩,⟨g3,g4⟩,g5,g6⟩:=hl _ (EH _ _ hk)
  rw [aME l hk,List.filter_append]
  generalize (l.take k).filter (CH p i) = a at *
  show cX n dues p i x l k a = _
  unfold cX
  have c0:decide ((k:Int) < (l.length:Int)) = true:=by simpa using hk
  have ck:0 <= (k:Int) ∧ (k:Int).toNat < l.length:=⟨by omega,by rw [Int.toNat_natCast]; omega⟩
  have ek:l[(k:Int).toNat]? = some (el l k):=by rw [Int.toNat_natCast]; exact HE l k hk
  have w3:IntKind.wrap .i64 ((k:Int) + 1) = ((k + 1:Nat):Int):=cD (by omega)
  have eT:at? p (el l k).to = some (el p (el l k).to.toNat):=by
   have:=eO p (el l k).to.toNat (by omega)
   rwa [Int.toNat_of_nonneg g3] at this
  have eF:at? p (el l k).from_ = some (el p (el l k).from_.toNat):=by
   have:=eO p (el l k).from_.toNat (by omega)
   rwa [Int.toNat_of_nonneg g1] at this
  have bT:=hpb (el l k).to.toNat (by omega)
  have bF:=hpb (el l k).from_.toNat (by omega)
  have wF:IntKind.wrap .i64 (el p (el l k).from_.toNat + (el l k).cost) = el p (el l k).from_.toNat + (el l k).cost:=jS (by omega) (by omega)
  have cL:(a.length + 1) * 48 <= 140737488355328:=by omega
  simp only [if_pos c0,if_pos ck,ek,Option.bind_some,eT,eF,wF,w3,if_pos cL]
  by_cases h1:(i:Int) < (el l k).due
  ·have d1:decide ((el l k).due > (i:Int)) = true:=by simpa using h1
   by_cases h2:el p (el l k).to.toNat = el p (el l k).from_.toNat + (el l k).cost
   ·have d2:(el p (el l k).to.toNat == el p (el l k).from_.toNat + (el l k).cost) = true:=by simpa using h2
    have ht:CH p i (el l k) = true:=by unfold CH; rw [decide_eq_true h1,decide_eq_true h2]; rfl
    rw [if_pos d1,if_pos d2,List.filter_cons_of_pos ht]
    rfl
   ·have d2:¬ (el p (el l k).to.toNat == el p (el l k).from_.toNat + (el l k).cost) = true:=by simpa using h2
    have ht:¬ CH p i (el l k) = true:=by unfold CH; rw [decide_eq_false h2]; simp
    rw [if_pos d1,if_neg d2,List.filter_cons_of_neg ht,List.filter_nil,List.append_nil]
  ·have d1:¬ decide ((el l k).due > (i:Int)) = true:=by simpa using h1
   have ht:¬ CH p i (el l k) = true:=by unfold CH; rw [decide_eq_false h1]; simp
   rw [if_neg d1,List.filter_cons_of_neg ht,List.filter_nil,List.append_nil]
 ·rintro a rfl
  rw [List.take_length]
  refine ⟨_,?_,rfl⟩
  show cX n dues p i x l l.length _ = _
  unfold cX
  rw [if_neg (by simp)]
theorem aPT (hll:l.length <= 100000) (i:Int) (x:List Int) (d:aF):lF n dues p i x l d 0 l = some (l.map zcG):=by
 unfold lF
 suffices hh:∃ y,dO (fun (w:Int × List aC)=>cR n dues p i x l d w.1 w.2) (0,l) = some y ∧ y = l.map zcG by
  obtain ⟨y,h1,h2⟩:=hh
  rw [h2] at h1; exact h1
 refine iM (step:=fun (w:Int × List aC)=>cR n dues p i x l d w.1 w.2) (fun k (a:List aC)=>((k:Int),a)) l.length (fun k a=>a.length = l.length ∧ ∀ j,j < l.length->el a j = if j < k then zcG (el l j) else el l j) _ ?_ ?_ _ ⟨rfl,fun j hj=>by rw [if_neg (Nat.not_lt_zero _)]⟩
 ·rintro k a hk ⟨h1,h2⟩
  refine .inl ⟨a.set k (zcG (el l k)),?_,by simp [h1],fun j hj=>?_⟩
  ·show cR n dues p i x l d k a = _
   unfold cR
   have c0:decide ((k:Int) < (l.length:Int)) = true:=by simpa using hk
   have ck:0 <= (k:Int) ∧ (k:Int).toNat < a.length:=⟨by omega,by rw [Int.toNat_natCast]; omega⟩
   have ek:a[(k:Int).toNat]? = some (el l k):=by rw [Int.toNat_natCast,HE a k (by omega),h2 k hk,if_neg (Nat.lt_irrefl _)]
   have w3:IntKind.wrap .i64 ((k:Int) + 1) = ((k + 1:Nat):Int):=cD (by omega)
   simp only [if_pos c0,if_pos ck,ek,Option.bind_some,w3]
   rfl
  ·rw [c8,h2 j hj]
   by_cases e:j = k
   ·subst e
    rw [if_pos ⟨rfl,by omega⟩,if_pos (Nat.lt_succ_self _)]
   ·rw [if_neg fun q=>e q.1]
    by_cases c:j < k
    ·rw [if_pos c,if_pos (by omega)]
    ·rw [if_neg c,if_neg (by omega)]
 ·rintro a ⟨h1,h2⟩
  refine ⟨a,?_,?_⟩
  ·show cR n dues p i x l d l.length a = _
   unfold cR
   rw [if_neg (by simp)]
  ·refine DV (by rw [h1,List.length_map]) fun j hj=>?_
   rw [h1] at hj
   rw [h2 j hj,if_pos hj,fN zcG l j hj]
theorem ZD {e:aC} {fr tt:Nat->Nat} {s x:Nat->Int} {cc:Bool->Int} {i:Nat} {b:Bool} (h:aV e = F7 fr tt s x cc i b):aV (zcG e) = F7 fr tt s x (fun _=>0) i b:=by
 have h1:e.due = i:=congrArg eN.due h
 have h2:=congrArg eN.sf h
 have h3:=congrArg eN.st h
 have h4:=congrArg eN.most h
 have h5:=congrArg eN.back h
 simp only [aV,F7] at h2 h3 h4 h5
 simp only [aV,F7,zcG,h1,h2,h3,h4,h5]
theorem aIA (h:IW n dues) (x:Nat->Int) (p:List Int) (i:Nat):pF (nH dues) (pR dues) (sM dues) dues.length x (YV (nH dues) (pR dues) (el p) i) (fun _=>0) ((((gI dues x dues.length).filter (CH p i)).map zcG).map aV):=by
 have ht:∀ j b,j < dues.length->(CH p i (FZ dues x j b) = true ↔ YV (nH dues) (pR dues) (el p) i j b):=by
  intro j b hj
  unfold CH YV nH pR VN
  rw [Bool.and_eq_true,decide_eq_true_eq,decide_eq_true_eq]
  cases b <;> simp [FZ]
 constructor
 ·intro k hk
  rw [List.length_map,List.length_map] at hk
  rw [fN aV _ k (by rw [List.length_map]; exact hk),fN zcG _ k hk]
  have hm:=EH _ _ hk
  rw [List.mem_filter] at hm
  obtain ⟨hm1,hm2⟩:=hm
  obtain ⟨j,b,hj,e,hm⟩:=wM.1 hm1
  rw [e] at hm2 ⊢
  refine ⟨j,b,hj,(ht j b hj).1 hm2,?_,ZD (rD h hj b)⟩
  have e2:(F7 (nH dues) (pR dues) (sM dues) x (fun _=>0) j b).most = (aV (FZ dues x j b)).most:=by rw [rD h hj]; rfl
  rw [e2]; exact hm
 ·intro j b hj hT hm
  have e2:(F7 (nH dues) (pR dues) (sM dues) x (fun _=>0) j b).most = (aV (FZ dues x j b)).most:=by rw [rD h hj]; rfl
  rw [e2] at hm
  have h1:=(wM (dues:=dues) (x:=x) (m:=dues.length)).2 ⟨j,b,hj,rfl,hm⟩
  have h2:=List.mem_filter.2 ⟨h1,(ht j b hj).2 hT⟩
  obtain ⟨k,hk,e⟩:=ZX h2
  refine ⟨k,by rw [List.length_map,List.length_map]; exact hk,?_⟩
  rw [fN aV _ k (by rw [List.length_map]; exact hk),fN zcG _ k hk,e]
  exact ZD (rD h hj b)
theorem aCs (hl:∀ g ∈ l,H6 n g) {last:List Int} (hla:last.length = n) {m:Nat} (hdue:∀ g ∈ l,0 <= g.due ∧ g.due < m) (a0:Int) (a1:List aF) (a3:List Int) (a4:Int) (best:List aD) {d D:Int} (hd0:0 <= d) (hdD:d <= D) {v u:Nat} {ks:List Nat} (w:Pth (l.map aV) last v ks u):v < n->∀ (x:List Int) (B:Int),x.length = m->(∀ i,-B <= el x i ∧ el x i <= B)->B + (ks.length:Int) * D <= 4611686018427387904 ->
  gP a0 a1 a3 a4 l (best,last) d v x = some (B2 (l.map aV) d x ks):=by
 induction w with
 | nil v hv =>
  intro hvn x B hxm hx hB
  unfold gP
  refine kX ?_
  show dZ a0 a1 a3 a4 l (best,last) d v x = _
  unfold dZ
  dsimp only
  rw [if_pos ⟨by omega,by rw [Int.toNat_natCast]; omega⟩,Int.toNat_natCast,HE last v (by omega),hv]
  rfl
 | @cons v k u ks hk hlv hd w ih =>
  intro hvn x B hxm hx hB
  rw [List.length_map] at hk
  obtain ⟨q1,q2⟩:=U8 hl hk
  obtain ⟨b1,b2⟩:=HM (l:=l) (last:=last) (by omega:v < last.length) hlv hk
  have hg:=hdue (el l k) (EH _ _ hk)
  have hD0:0 <= D:=by omega
  have hks:((k :: ks).length:Int) * D = (ks.length:Int) * D + D:=by
   rw [List.length_cons]; rw [show ((ks.length + 1:Nat):Int) = (ks.length:Int) + 1 by omega,Int.add_mul,Int.one_mul]
  have hpos:0 <= (ks.length:Int) * D:=Int.mul_nonneg (by omega) hD0
  have hmv:=aGZ (g:=el l k) (x:=x) (B:=B) hg.1 (by omega) hx hd0 hdD (by omega)
  unfold gP
  rw [nX (s':=((el l k).from_,x.set (el l k).due.toNat (el x (el l k).due.toNat + ZC (aV (el l k)) d))) ?_]
  ·have hsg:-D <= ZC (aV (el l k)) d ∧ ZC (aV (el l k)) d <= D:=by unfold ZC; split <;> omega
   have hxd:=hx (el l k).due.toNat
   have:=ih q1 (x.set (el l k).due.toNat (el x (el l k).due.toNat + ZC (aV (el l k)) d)) (B + D) (by rw [List.length_set]; exact hxm) (S0 hx (by omega) (by omega) hD0) (by omega)
   unfold gP at this
   rw [q2,this,B2,fN aV l k hk]
   rfl
  ·show dZ a0 a1 a3 a4 l (best,last) d v x = _
   unfold dZ
   dsimp only
   have cv:0 <= (v:Int) ∧ (v:Int).toNat < last.length:=⟨by omega,by rw [Int.toNat_natCast]; omega⟩
   have ck:0 <= (k:Int) ∧ (k:Int).toNat < l.length:=⟨by omega,by rw [Int.toNat_natCast]; exact hk⟩
   have cg:decide ((k:Int) ≥ 0) = true:=by simp
   simp only [if_pos cv,if_pos ck,b1,b2,Option.bind_some,if_pos cg,hmv]
end
end Go.Proofs.Ytgjcnbgfaimepaa
namespace Go.Proofs.Ytgjcnbgfaimepaa
open Go.RowKit Vm
section
variable {n:Nat} {dues:List aF} {p:List Int}
theorem aAW (h:IW n dues) (hp:p.length = n) (hpb:∀ v,v < n->-1000 <= el p v ∧ el p v <= 1000) {i:Nat} (hi:i < dues.length) {x:List Int} (hl:x.length = dues.length) (hB:u9 (nH dues) (pR dues) (sM dues) n dues.length (el x)) (hc:s0 (nH dues) (pR dues) (sM dues) dues.length (el x) (el p)) (hpi:el p (pR dues i) = el p (nH dues i) - 1) :
  (∃ x',b9 n dues p i x = some (.inl x') ∧ x'.length = dues.length ∧ u9 (nH dues) (pR dues) (sM dues) n dues.length (el x') ∧ s0 (nH dues) (pR dues) (sM dues) dues.length (el x') (el p) ∧ (∀ j,j < i->el x' j = el x j) ∧ (el (dues.map (·.Sum)) i - el x' i).toNat < (el (dues.map (·.Sum)) i - el x i).toNat) ∨
  ((b9 n dues p i x = some (.inr (.inl x)) ∨ b9 n dues p i x = some (.inr (.inr x))) ∧ BF (nH dues) (pR dues) (sM dues) n dues.length (el x) i):=by
 have hr:InR (sM dues) dues.length (el x):=fun j hj=>⟨hB.lo j hj,hB.hi j hj⟩
 have hst:=UQ h hl hr
 have hok:=QU h (el x)
 have hll:=AP dues (el x) dues.length
 have hlen:=h.len
 have hnn:=h.nn
 have hdi:=h.each i hi
 have hxi:=hr i hi
 have S:=aIA h (el x) p i
 have hdue:=aHh h (el x)
 have c4:0 <= (i:Int) ∧ (i:Int).toNat < x.length:=⟨by omega,by rw [Int.toNat_natCast]; omega⟩
 have e4:x[(i:Int).toNat]? = some (el x i):=by rw [Int.toNat_natCast]; exact HE x i (by omega)
 have eD:=eO dues i hi
 by_cases hfull:el x i < sM dues i
 ·have hfull' : decide (el x i < (el dues i).Sum) = true:=by simpa [sM] using hfull
  have hti:=aMN (dues:=dues) hok (by omega) hp hpb i x
  have hl1:∀ g ∈ ((gI dues (el x) dues.length).filter (CH p i)).map zcG,H6 n g:=by
   intro g hg
   obtain ⟨g',hg',rfl⟩:=List.mem_map.1 hg
   have:=hok g' (List.mem_filter.1 hg').1
   exact ⟨this.1,this.2.1,by simp [zcG]⟩
  have hl2:∀ g ∈ ((gI dues (el x) dues.length).filter (CH p i)).map zcG,0 <= g.due ∧ g.due < (dues.length:Nat):=by
   intro g hg
   obtain ⟨g',hg',rfl⟩:=List.mem_map.1 hg
   exact hdue g' (List.mem_filter.1 hg').1
  have hfl:((gI dues (el x) dues.length).filter (CH p i)).length <= 200:=Nat.le_trans (List.length_filter_le _ _) (by omega)
  have hz:=aPT (n:=n) (dues:=dues) (p:=p) (l:=(gI dues (el x) dues.length).filter (CH p i)) (by omega) i x (el dues i)
  have hl3:(((gI dues (el x) dues.length).filter (CH p i)).map zcG).length <= 200:=by rw [List.length_map]; exact hfl
  generalize (gI dues (el x) dues.length).filter (CH p i) = l0 at *
  generalize l0.map zcG = l at *
  have hpot:Pot eN.src eN.dst eN.cost (l.map aV) fun _=>0:=by
   intro k hk
   obtain ⟨j,b,_,_,_,e⟩:=S.sound k hk
   rw [e]
   show (0:Int) <= 0 + 0
   omega
  have htoo:((List.replicate n (0:Int)).set (el dues i).To.toNat 1).length = n:=by rw [List.length_set,List.length_replicate]
  obtain ⟨best,last,q1,q2,q3,T⟩:=aCI (n:=n) (by omega) hl1 (by omega) htoo hpot
  have hroot:∀ v,v < n->(decide (el ((List.replicate n (0:Int)).set (el dues i).To.toNat 1) v > 0) = true ↔ v = pR dues i):=by
   intro v hv
   rw [decide_eq_true_eq,c8,List.length_replicate,kV _ _ _ hv]
   unfold pR
   by_cases e:v = (el dues i).To.toNat
   ·rw [if_pos ⟨e,by omega⟩]; simp [e]
   ·rw [if_neg fun q=>e q.1]; simp [e]
  have cT:0 <= (el dues i).To ∧ (el dues i).To.toNat < (List.replicate n (0:Int)).length:=⟨by omega,by rw [List.length_replicate]; omega⟩
  have eT:(List.replicate n (0:Int))[(el dues i).To.toNat]? = some 0:=by rw [HE _ _ (by rw [List.length_replicate]; omega),kV _ _ _ (by omega)]
  have cF:0 <= (el dues i).From ∧ (el dues i).From.toNat < (best.map lA).length:=⟨by omega,by rw [List.length_map]; omega⟩
  have eF:(best.map lA)[(el dues i).From.toNat]? = some (lA (el best (nH dues i))):=by rw [List.getElem?_map,HE best _ (by omega)]; rfl
  have c0:0 <= (n:Int) ∧ (n:Int) <= (n:Int) ∧ 8 * (n:Int) <= 281474976710656 ∧ (n:Int) <= 9223372036854775807:=by omega
  have hgf:(lA (el best (nH dues i))).fine = (el best (nH dues i)).fine:=rfl
  by_cases hf:(el best (nH dues i)).fine = true
  ·obtain ⟨ks,u,w,hu,hRu,hFu,hk⟩:=T.path _ (nH dues i) (Nat.lt_succ_self _) (h.fr i hi) hf
   obtain rfl:=(hroot u hu).1 hRu
   have hkl:∀ k ∈ ks,k < l.length:=fun k hks=>by have:=(hk k hks).1; rwa [List.length_map] at this
   have hk' : ∀ k ∈ ks,k < (l.map aV).length ∧ (fun v=>(el best v).k.toNat) (el (l.map aV) k).src < (fun v=>(el best v).k.toNat) (el (l.map aV) k).dst:=fun k hks=>⟨(hk k hks).1,(hk k hks).2.2.2.1⟩
   obtain ⟨_,hnd⟩:=w.dues S (μ:=fun v=>(el best v).k.toNat) hk'
   have hksl:ks.length <= 100:=by
    have:=ON dues.length _ hnd (fun z hz=>by
     obtain ⟨k,hks,rfl⟩:=List.mem_map.1 hz
     rw [fN aV l k (hkl k hks)]
     have:=hl2 (el l k) (EH _ _ (hkl k hks))
     show (el l k).due.toNat < _
     omega)
    rw [List.length_map] at this
    omega
   have hpos:∀ k ∈ ks,0 < (el l k).most:=fun k hks=>by
    obtain ⟨j,b,_,_,hm,e⟩:=S.sound k (hk k hks).1
    rw [← aCG (hkl k hks),e]; exact hm
   unfold sM at hfull hxi
   have hmm:=UT l ks ((el dues i).Sum - el x i)
   have hmp:=QD l ks ((el dues i).Sum - el x i) (by omega) hpos
   have w1:=aBi hl1 q3 n dues p i x (best.map lA) w (h.fr i hi) ((el dues i).Sum - el x i)
   have hfrE:((nH dues i:Nat):Int) = (el dues i).From:=by unfold nH; omega
   rw [hfrE] at w1
   generalize PF l ((el dues i).Sum - el x i) ks = d at *
   have w2:=aCs hl1 q3 (m:=dues.length) hl2 n dues p i (best.map lA) (d:=d) (D:=1099511627776) (by omega) (by omega) w (h.fr i hi) x 1099511627776 hl (fun j=>by
    by_cases hj:j < dues.length
    ·have:=hr j hj; have:=h.each j hj; unfold sM at *; omega
    ·rw [show el x j = 0 by simp [el,show ¬ j < x.length by omega]]; omega) (by
    have:(ks.length:Int) * 1099511627776 <= 100 * 1099511627776:=Int.mul_le_mul_of_nonneg_right (by omega) (by omega)
    omega)
   rw [hfrE] at w2
   obtain ⟨m0,m1,m2,m3,m4,m5⟩:=aAE hl hi S hB hc hpi (μ:=fun v=>(el best v).k.toNat) w hk' (d:=d) (by omega) (fun k hks=>by rw [aCG (hkl k hks)]; exact hmm.2 k hks) (by unfold sM; omega)
   refine .inl ⟨_,?_,m1,m2,m3,m4,?_⟩
   ·unfold b9
    have wS:IntKind.wrap .i64 ((el dues i).Sum - el x i) = (el dues i).Sum - el x i:=jS (by omega) (by omega)
    have hml:(B2 (l.map aV) d x ks).length = dues.length:=by rw [OG,hl]
    have c5:0 <= (i:Int) ∧ (i:Int).toNat < (B2 (l.map aV) d x ks).length:=⟨by omega,by rw [Int.toNat_natCast]; omega⟩
    have e5:(B2 (l.map aV) d x ks)[(i:Int).toNat]? = some (el (B2 (l.map aV) d x ks) i):=by rw [Int.toNat_natCast]; exact HE _ i (by omega)
    have w5:IntKind.wrap .i64 (el (B2 (l.map aV) d x ks) i + d) = el (B2 (l.map aV) d x ks) i + d:=by rw [m0]; exact jS (by omega) (by omega)
    have cn:¬ (!(el best (nH dues i)).fine) = true:=by rw [hf]; decide
    simp only [if_pos c4,e4,Option.bind_some,eD,if_pos hfull',hst,hti,if_pos c0,Int.toNat_natCast n,if_pos cT,eT,hz,q1,if_pos cF,eF,hgf,if_neg cn,wS,w1,w2,if_pos c5,e5,w5]
    rw [Int.toNat_natCast]
   ·rw [fN (·.Sum) dues i hi,m5]
    omega
  ·refine .inr ⟨.inr ?_,?_⟩
   ·unfold b9
    have cn:(!(el best (nH dues i)).fine) = true:=by simpa using hf
    simp only [if_pos c4,e4,Option.bind_some,eD,if_pos hfull',hst,hti,if_pos c0,Int.toNat_natCast n,if_pos cT,eT,hz,q1,if_pos cF,eF,hgf,if_pos cn]
   ·refine aDW hi h.fr h.tt hB hc S (F:=fun v=>(el best v).fine) (fun k hk hF=>(T.closed k hk hF).1) (T.root _ (h.tt i hi) ((hroot _ (h.tt i hi)).2 rfl)) (by simpa using hf)
 ·refine .inr ⟨.inl ?_,aBc hi (by omega)⟩
  unfold b9
  have hfull' : ¬ decide (el x i < (el dues i).Sum) = true:=by simpa [sM] using hfull
  rw [if_pos c4,e4,Option.bind_some,eD,Option.bind_some,if_neg hfull']
theorem aOl (h:IW n dues) (hp:p.length = n) (hpb:∀ v,v < n->-1000 <= el p v ∧ el p v <= 1000) {i:Nat} (hi:i < dues.length) {x:List Int} (hl:x.length = dues.length) (hB:u9 (nH dues) (pR dues) (sM dues) n dues.length (el x)) (hc:s0 (nH dues) (pR dues) (sM dues) dues.length (el x) (el p)) :
  ∃ x',l9 n dues x p i = some x' ∧ x'.length = dues.length ∧ u9 (nH dues) (pR dues) (sM dues) n dues.length (el x') ∧ s0 (nH dues) (pR dues) (sM dues) dues.length (el x') (el p) ∧ (∀ j,j < i->el x' j = el x j) ∧ BF (nH dues) (pR dues) (sM dues) n dues.length (el x') i:=by
 have hdi:=h.each i hi
 have hnn:=h.nn
 have eD:=eO dues i hi
 have eT:at? p (el dues i).To = some (el p (pR dues i)):=by
  have:=eO p (el dues i).To.toNat (by omega)
  rwa [Int.toNat_of_nonneg hdi.2.1.1] at this
 have eF:at? p (el dues i).From = some (el p (nH dues i)):=by
  have:=eO p (el dues i).From.toNat (by omega)
  rwa [Int.toNat_of_nonneg hdi.1.1] at this
 have bF:=hpb _ (h.fr i hi)
 unfold l9
 rw [eD,Option.bind_some,eT,Option.bind_some,Option.bind_some,eF,Option.bind_some,jS (by omega) (by omega)]
 by_cases hpi:el p (pR dues i) = el p (nH dues i) - 1
 ·have cn:¬ (el p (pR dues i) != el p (nH dues i) - 1) = true:=by simpa using hpi
  rw [if_neg cn]
  unfold pI
  obtain ⟨z,h1,h2⟩:=S3 (step:=fun (w:List Int)=>b9 n dues p i w) (fun w=>w.length = dues.length ∧ u9 (nH dues) (pR dues) (sM dues) n dues.length (el w) ∧ s0 (nH dues) (pR dues) (sM dues) dues.length (el w) (el p) ∧ ∀ j,j < i->el w j = el x j) (fun w=>(el (dues.map (·.Sum)) i - el w i).toNat)
   (fun z=>∃ x' : List Int,(z = .inl x' ∨ z = .inr x') ∧ x'.length = dues.length ∧ u9 (nH dues) (pR dues) (sM dues) n dues.length (el x') ∧ s0 (nH dues) (pR dues) (sM dues) dues.length (el x') (el p) ∧ (∀ j,j < i->el x' j = el x j) ∧ BF (nH dues) (pR dues) (sM dues) n dues.length (el x') i) (fun w ⟨i1,i2,i3,i4⟩=>by
    rcases aAW h hp hpb hi i1 i2 i3 hpi with ⟨x',s1,s2,s3,s4,s5,s6⟩ | ⟨s1 | s1,s2⟩
    ·exact .inl ⟨x',s1,⟨s2,s3,s4,fun j hj=>by rw [s5 j hj,i4 j hj]⟩,s6⟩
    ·exact .inr ⟨_,s1,w,.inl rfl,i1,i2,i3,i4,s2⟩
    ·exact .inr ⟨_,s1,w,.inr rfl,i1,i2,i3,i4,s2⟩) x ⟨hl,hB,hc,fun _ _=>rfl⟩
  obtain ⟨x',h3,h4⟩:=h2
  refine ⟨x',?_,h4⟩
  rw [h1,Option.bind_some]
  rcases h3 with rfl | rfl <;> rfl
 ·have cn:(el p (pR dues i) != el p (nH dues i) - 1) = true:=by simpa using hpi
  rw [if_pos cn]
  exact ⟨x,rfl,hl,hB,hc,fun _ _=>rfl,XL hi h.fr h.tt hB hc hpi⟩
structure ST (n:Nat) (dues:List aF) (x q:List Int):Prop where
 len:x.length = dues.length
 lenQ:q.length = n
 bald:u9 (nH dues) (pR dues) (sM dues) n dues.length (el x)
 cert:s0 (nH dues) (pR dues) (sM dues) dues.length (el x) (el q)
 lex:∀ i,i < dues.length->BF (nH dues) (pR dues) (sM dues) n dues.length (el x) i
 least:IY n ((gI dues (el x) dues.length).map aV) (el q)
theorem ST.one {x q x' q' : List Int} (h:IW n dues) (a:ST n dues x q) (b:ST n dues x' q'):x = x' ∧ q = q':=by
 have hs:dH (el x) dues.length = dH (el x') dues.length:=by
  have h1:=HR h.fr h.tt a.bald b.bald a.cert
  have h2:=HR h.fr h.tt b.bald a.bald b.cert
  omega
 have e:=aNF a.bald b.bald hs a.lex b.lex
 have e1:x = x':=DV (by rw [a.len,b.len]) fun i hi=>e i (by rw [← a.len]; exact hi)
 subst e1
 refine ⟨rfl,DV (by rw [a.lenQ,b.lenQ]) fun v hv=>a.least.one b.least (by rw [← a.lenQ]; exact hv)⟩
theorem aPt (h:IW n dues):kW n dues 0 (List.replicate dues.length (0:Int)) = some (dues.map (·.Sum)):=by
 unfold kW
 have hlen:=h.len
 suffices hh:∃ y,dO (fun (w:Int × List Int)=>cU n dues w.1 w.2) (0,List.replicate dues.length (0:Int)) = some y ∧ y = dues.map (·.Sum) by
  obtain ⟨y,h1,h2⟩:=hh
  rw [h2] at h1; exact h1
 refine iM (step:=fun (w:Int × List Int)=>cU n dues w.1 w.2) (fun k (a:List Int)=>((k:Int),a)) dues.length (fun k a=>a.length = dues.length ∧ ∀ j,j < k->el a j = (el dues j).Sum) _ ?_ ?_ _ ⟨List.length_replicate,fun j hj=>absurd hj (Nat.not_lt_zero _)⟩
 ·rintro k a hk ⟨h1,h2⟩
  refine .inl ⟨a.set k (el dues k).Sum,?_,by simp [h1],fun j hj=>?_⟩
  ·show cU n dues k a = _
   unfold cU
   have c0:decide ((k:Int) < (dues.length:Int)) = true:=by simpa using hk
   have ck:0 <= (k:Int) ∧ (k:Int).toNat < a.length:=⟨by omega,by rw [Int.toNat_natCast]; omega⟩
   have ek:a[(k:Int).toNat]? = some (el a k):=by rw [Int.toNat_natCast]; exact HE a k (by omega)
   have w3:IntKind.wrap .i64 ((k:Int) + 1) = ((k + 1:Nat):Int):=cD (by omega)
   simp only [if_pos c0,eO dues k hk,Option.bind_some,if_pos ck,ek,w3]
   rw [Int.toNat_natCast]
  ·rw [c8]
   by_cases e:j = k
   ·subst e; rw [if_pos ⟨rfl,by omega⟩]
   ·rw [if_neg fun q=>e q.1]; exact h2 j (by omega)
 ·rintro a ⟨h1,h2⟩
  refine ⟨a,?_,?_⟩
  ·show cU n dues dues.length a = _
   unfold cU
   rw [if_neg (by simp)]
  ·refine DV (by rw [h1,List.length_map]) fun j hj=>?_
   rw [h1] at hj
   rw [h2 j hj,fN (·.Sum) dues j hj]
theorem IY.cert (h:IW n dues) {x:List Int} {q:Nat->Int} (hq:IY n ((gI dues (el x) dues.length).map aV) q):s0 (nH dues) (pR dues) (sM dues) dues.length (el x) q :=
 (KW (PQ h (el x)) q).2 hq.pot
theorem aQc (h:IW n dues) (hR:iR n dues = some true):∃ x q,iT n dues = some (x,q,0) ∧ ST n dues x q:=by
 have hlen:=h.len
 have hnn:=h.nn
 unfold iT
 rw [hR,Option.bind_some,if_neg (by decide),if_pos (by omega),Int.toNat_natCast,aPt h,Option.bind_some]
 obtain ⟨x0,a1,a2,a3,p0,a4⟩:=aEU h (sums:=dues.map (·.Sum)) (by rw [List.length_map]) fun i hi=>by rw [fN (·.Sum) dues i hi]; rfl
 obtain ⟨q0,b1,b2,b3⟩:=aKZ h a2 (fun i hi=>⟨a3.lo i hi,a3.hi i hi⟩) a4
 have b4:=b3.cert h
 have hpb:∀ v,v < n->-1000 <= el q0 v ∧ el q0 v <= 1000:=fun v hv=>by have:=b3.le0 v hv; have:=b3.lo v hv; omega
 rw [a1,Option.bind_some,b1,Option.bind_some]
 have hl2:∃ x,kY n dues q0 0 x0 = some x ∧ x.length = dues.length ∧ u9 (nH dues) (pR dues) (sM dues) n dues.length (el x) ∧ s0 (nH dues) (pR dues) (sM dues) dues.length (el x) (el q0) ∧ ∀ i,i < dues.length->BF (nH dues) (pR dues) (sM dues) n dues.length (el x) i:=by
  unfold kY
  refine iM (step:=fun (w:Int × List Int)=>dE n dues q0 w.1 w.2) (fun k (a:List Int)=>((k:Int),a)) dues.length (fun k a=>a.length = dues.length ∧ u9 (nH dues) (pR dues) (sM dues) n dues.length (el a) ∧ s0 (nH dues) (pR dues) (sM dues) dues.length (el a) (el q0) ∧ ∀ i,i < k->BF (nH dues) (pR dues) (sM dues) n dues.length (el a) i) _ ?_ ?_ _ ⟨a2,a3,b4,fun j hj=>absurd hj (Nat.not_lt_zero _)⟩
  ·rintro k a hk ⟨i1,i2,i3,i4⟩
   obtain ⟨x',r1,r2,r3,r4,r5,r6⟩:=aOl h b2 hpb hk i1 i2 i3
   refine .inl ⟨x',?_,r2,r3,r4,fun j hj=>?_⟩
   ·show dE n dues q0 k a = _
    unfold dE
    have c0:decide ((k:Int) < (dues.length:Int)) = true:=by simpa using hk
    rw [if_pos c0,r1,Option.bind_some,cD (by omega)]
   ·by_cases e:j = k
    ·subst e; exact r6
    ·exact (i4 j (by omega)).keep (fun j' hj'=>r5 j' (by omega)) (HR h.fr h.tt r3 i2 r4)
  ·rintro a hI
   refine ⟨a,?_,hI⟩
   show dE n dues q0 dues.length a = _
   unfold dE
   rw [if_neg (by simp)]
 obtain ⟨x,d1,d2,d3,d4,d5⟩:=hl2
 obtain ⟨q,f1,f2,f3⟩:=aKZ h d2 (fun i hi=>⟨d3.lo i hi,d3.hi i hi⟩) d4
 rw [d1,Option.bind_some,f1,Option.bind_some]
 exact ⟨x,q,rfl,d2,f2,d3,f3.cert h,d5,f3⟩
end
end Go.Proofs.Ytgjcnbgfaimepaa
namespace Go.Proofs.Ytgjcnbgfaimepaa
open Go.RowKit Vm
def rC (n:Int) (d:aF):Prop:=(0 <= d.From ∧ d.From < n) ∧ (0 <= d.To ∧ d.To < n) ∧ d.From ≠ d.To ∧ 1 <= d.Sum ∧ d.Sum <= 1099511627776
instance (n:Int) (d:aF):Decidable (rC n d):=by unfold rC; exact inferInstance
def MT (n:Int) (dues:List aF):Bool:=decide (0 <= n ∧ n <= 40) && decide (dues.length <= 100) && yK (fun i=>decide (rC n (el dues i))) dues.length
theorem QV {n:Int} {dues:List aF}:MT n dues = true ↔ ∃ m:Nat,n = m ∧ IW m dues:=by
 unfold MT
 rw [Bool.and_eq_true,Bool.and_eq_true,decide_eq_true_eq,decide_eq_true_eq,kG]
 constructor
 ·rintro ⟨⟨⟨h1,h2⟩,h3⟩,h4⟩
  refine ⟨n.toNat,by omega,⟨by omega,h3,fun i hi=>?_⟩⟩
  have:=of_decide_eq_true (h4 i hi)
  unfold rC at this
  omega
 ·rintro ⟨m,rfl,h⟩
  refine ⟨⟨⟨by omega,by have:=h.nn; omega⟩,h.len⟩,fun i hi=>decide_eq_true (h.each i hi)⟩
theorem aCX (n:Int) (dues:List aF):iR n dues = some (MT n dues):=by
 unfold iR MT
 by_cases h1:0 <= n ∧ n <= 40
 ·have c1:¬ decide (n < 0) = true:=by simp; omega
  have c2:¬ decide (n > 40) = true:=by simp; omega
  rw [if_neg c1,if_neg c2,decide_eq_true h1]
  by_cases h2:dues.length <= 100
  ·have c3:¬ decide ((dues.length:Int) > 100) = true:=by simp; omega
   rw [if_neg c3,decide_eq_true h2]
   have key:kZ n dues 0 = some (if yK (fun i=>decide (rC n (el dues i))) dues.length = true then .inl () else .inr ()):=by
    unfold kZ
    refine xS? (step:=fun w=>dF n dues w) (fun i:Nat=>(i:Int)) dues.length (fun i=>decide (rC n (el dues i))) () ?_ ?_
    ·intro i hi
     show dF n dues i = _
     unfold dF
     have w3:IntKind.wrap .i64 ((i:Int) + 1) = ((i + 1:Nat):Int):=cD (by omega)
     have c0:decide ((i:Int) < (dues.length:Int)) = true:=by simpa using hi
     simp only [if_pos c0,eO dues i hi,Option.bind_some,w3]
     simp only [decide_eq_true_eq,beq_iff_eq]
     generalize el dues i = d
     by_cases a1:d.From < 0
     ·have hno:¬ rC n d:=by unfold rC; omega
      rw [if_pos a1,if_neg hno]
     rw [if_neg a1]
     by_cases a2:d.From ≥ n
     ·have hno:¬ rC n d:=by unfold rC; omega
      rw [if_pos a2,if_neg hno]
     rw [if_neg a2]
     by_cases a3:d.To < 0
     ·have hno:¬ rC n d:=by unfold rC; omega
      rw [if_pos a3,if_neg hno]
     rw [if_neg a3]
     by_cases a4:d.To ≥ n
     ·have hno:¬ rC n d:=by unfold rC; omega
      rw [if_pos a4,if_neg hno]
     rw [if_neg a4]
     by_cases a5:d.From = d.To
     ·have hno:¬ rC n d:=by unfold rC; omega
      rw [if_pos a5,if_neg hno]
     rw [if_neg a5]
     by_cases a6:d.Sum < 1
     ·have hno:¬ rC n d:=by unfold rC; omega
      rw [if_pos a6,if_neg hno]
     rw [if_neg a6]
     by_cases a7:d.Sum > 1099511627776
     ·have hno:¬ rC n d:=by unfold rC; omega
      rw [if_pos a7,if_neg hno]
     rw [if_neg a7,if_pos (show rC n d by unfold rC; omega)]
    ·show dF n dues dues.length = _
     unfold dF
     rw [if_neg (by simp)]
   rw [key,Option.bind_some]
   cases yK (fun i=>decide (rC n (el dues i))) dues.length <;> rfl
  ·have c3:decide ((dues.length:Int) > 100) = true:=by simp; omega
   rw [if_pos c3,decide_eq_false h2]; rfl
 ·rw [decide_eq_false h1]
  by_cases h2:n < 0
  ·rw [if_pos (decide_eq_true h2)]; rfl
  ·have c1:¬ decide (n < 0) = true:=by simpa using h2
   have c2:decide (n > 40) = true:=by simp; omega
   rw [if_neg c1,if_pos c2]; rfl
def NM (x:List Int):Bool:=yK (fun i=>decide (0 <= el x i ∧ el x i <= 1099511627776)) x.length
def J9 (x:List Int):Int:=if x.length <= 100 ∧ NM x = true then dH (el x) x.length else 0
theorem PB {g:Nat->Int} {B:Int} (hB:0 <= B):∀ k,(∀ i,i < k->0 <= g i ∧ g i <= B)->0 <= dH g k ∧ dH g k <= (k:Int) * B
 | 0,_=>by simp [dH]
 | k + 1,h=>by
  have:=PB hB k fun i hi=>h i (by omega)
  have hk:=h k (by omega)
  show 0 <= dH g k + g k ∧ dH g k + g k <= ((k + 1:Nat):Int) * B
  rw [show ((k + 1:Nat):Int) = (k:Int) + 1 by omega,Int.add_mul,Int.one_mul]
  omega
theorem LJ (x:List Int):c9 x = some (J9 x):=by
 unfold c9 J9
 by_cases h2:x.length <= 100
 ·have c3:¬ decide ((x.length:Int) > 100) = true:=by simp; omega
  rw [if_neg c3]
  unfold oL
  obtain ⟨z,h1,h3⟩:=iM (step:=fun (w:Int × Int)=>cA x w.1 w.2) (fun k (a:Int)=>(a,(k:Int))) x.length (fun k a=>a = dH (el x) k ∧ ∀ i,i < k->0 <= el x i ∧ el x i <= 1099511627776)
   (fun z=>(z = .inl (dH (el x) x.length) ∧ NM x = true) ∨ (z = .inr () ∧ NM x = false)) (by
    rintro k a hk ⟨rfl,hI⟩
    have hb:=PB (g:=el x) (B:=1099511627776) (by omega) k hI
    have c0:decide ((k:Int) < (x.length:Int)) = true:=by simpa using hk
    have w3:IntKind.wrap .i64 ((k:Int) + 1) = ((k + 1:Nat):Int):=cD (by omega)
    by_cases hx:0 <= el x k ∧ el x k <= 1099511627776
    ·refine .inl ⟨dH (el x) (k + 1),?_,rfl,fun i hi=>?_⟩
     ·show cA x (dH (el x) k) k = _
      unfold cA
      have hk2:(k:Int) * 1099511627776 <= 100 * 1099511627776:=by omega
      have d1:¬ decide (el x k < 0) = true:=by simp; omega
      have d2:¬ decide (el x k > 1099511627776) = true:=by simp; omega
      rw [if_pos c0,eO x k hk,Option.bind_some,if_neg d1,if_neg d2,jS (by omega) (by omega),w3]
      rfl
     ·by_cases e:i = k
      ·subst e; exact hx
      ·exact hI i (by omega)
    ·refine .inr ⟨.inr (),?_,.inr ⟨rfl,?_⟩⟩
     ·show cA x (dH (el x) k) k = _
      unfold cA
      rw [if_pos c0,eO x k hk,Option.bind_some]
      by_cases d1:el x k < 0
      ·rw [if_pos (decide_eq_true d1)]
      ·have d2:decide (el x k > 1099511627776) = true:=by simp; omega
       rw [if_neg (by simpa using d1),if_pos d2]
     ·rw [← Bool.not_eq_true,NM,kG]
      exact fun q=>hx (of_decide_eq_true (q k hk))) (by
    rintro a ⟨rfl,hI⟩
    refine ⟨.inl (dH (el x) x.length),?_,.inl ⟨rfl,kG.2 fun i hi=>decide_eq_true (hI i hi)⟩⟩
    show cA x _ x.length = _
    unfold cA
    rw [if_neg (by simp)]) 0 ⟨rfl,fun i hi=>absurd hi (Nat.not_lt_zero _)⟩
  rw [show ((0:Nat):Int) = 0 from rfl] at h1
  rw [h1,Option.bind_some]
  rcases h3 with ⟨rfl,h⟩ | ⟨rfl,h⟩
  ·rw [if_pos ⟨h2,h⟩]; rfl
  ·rw [if_neg (by rw [h]; simp)]; rfl
 ·have c3:decide ((x.length:Int) > 100) = true:=by simp; omega
  rw [if_pos c3,if_neg (fun q=>h2 q.1)]
end Go.Proofs.Ytgjcnbgfaimepaa
namespace Go.Proofs.Ytgjcnbgfaimepaa
open Go.RowKit Vm
section
variable {n:Nat} {dues:List aF} {x q:List Int}
structure aTK (n:Nat) (dues:List aF) (x q:List Int):Prop where
 len:x.length = dues.length
 lenQ:q.length = n
 bald:u9 (nH dues) (pR dues) (sM dues) n dues.length (el x)
 rng:∀ v,v < n->-40 <= el q v ∧ el q v <= 40
 cert:s0 (nH dues) (pR dues) (sM dues) dues.length (el x) (el q)
end
end Go.Proofs.Ytgjcnbgfaimepaa
