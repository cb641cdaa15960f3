/- Clearing: balancing ends balanced, and best. Clearing: the potentials are the least costs of steps. Clearing: raising one due. Clearing: what Clear returns. Clearing: what Right, Total, Balanced and Proves say. Clearing: what Balanced and Proves say. -/
import Derived.Test.YtgjcnbgfaimepaaPCa
namespace Go.Proofs.Ytgjcnbgfaimepaa
section
open Go.RowKit Vm
section
variable {n:Nat} {dues:List aI} {sums:List Int}
def aE9 (n:Nat) (dues:List aI) (x:Nat->Int):Int:=eY (fun v=>if 0 < netF (iH dues) (i7 dues) dues.length x v then netF (iH dues) (i7 dues) dues.length x v else 0) n
theorem aDR (x:Nat->Int):0 <= aE9 n dues x:=WE fun v _=>by split <;> omega
theorem aHd {x y:Nat->Int} {u v:Nat} {d:Int} (hu:u < n) (hd:0 < d) (h1:d <= netF (iH dues) (i7 dues) dues.length x u) (h2:d <= -netF (iH dues) (i7 dues) dues.length x v)
  (h:∀ z,netF (iH dues) (i7 dues) dues.length y z = netF (iH dues) (i7 dues) dues.length x z + (if v = z then d else 0) - (if u = z then d else 0)):aE9 n dues y = aE9 n dues x - d:=by
 have hne:¬ v = u:=fun e=>by subst e; omega
 unfold aE9
 rw [jJ (h:=fun z=>(if 0 < netF (iH dues) (i7 dues) dues.length x z then netF (iH dues) (i7 dues) dues.length x z else 0) - (if z = u then d else 0)) fun z _=>?_,ED,TZ hu]
 rw [h z]
 by_cases e1:z = u
 ·subst e1
  rw [Ã hne,Á rfl]
  split <;> split <;> omega
 ·rw [Ã (fun q:u = z=>e1 q.symm),Ã e1]
  by_cases e2:v = z
  ·subst e2
   rw [Á rfl]
   split <;> split <;> omega
  ·rw [Ã e2]
   simp
theorem aG9 {l:List aC} {k:Nat} (hk:k < l.length):(el (l.map aJ) k).most = (el l k).most:=by rw [eP aJ l k hk]; rfl
theorem aKU (h:D5 n dues) (x:Nat->Int):∀ g ∈ iV dues x dues.length,0 <= g.due ∧ g.due < (dues.length:Nat):=by
 intro g hg
 obtain ⟨i,b,hi,rfl,_⟩:=D1.1 hg
 simp only [pD]
 omega
theorem aCj (h:D5 n dues) {too x:List Int} (hto:too = X2 n dues (el x)) (hl:x.length = dues.length) (hr:InR (jN dues) dues.length (el x)) {p:Nat->Int} (hp:iP (iH dues) (i7 dues) (jN dues) dues.length (el x) p) :
  (∃ too' x',eU n dues too x = some (.inl (too',x')) ∧ too' = X2 n dues (el x') ∧ x'.length = dues.length ∧ InR (jN dues) dues.length (el x') ∧ (∃ p',iP (iH dues) (i7 dues) (jN dues) dues.length (el x') p') ∧ (aE9 n dues (el x')).toNat < (aE9 n dues (el x)).toNat) ∨
  (eU n dues too x = some (.inr x) ∧ oG (iH dues) (i7 dues) (jN dues) n dues.length (el x)):=by
 have S:=UE h (el x)
 have hpot:=(KQ S p).1 hp
 have hlen:=h.len
 have hnn:=h.nn
 have hst:=aBq h hl hr
 have hok:=ZD h (el x)
 have hll:=DX dues (el x) dues.length
 have htl:too.length = n:=by rw [hto,Y8]
 have hte:∀ v,v < n->el too v = netF (iH dues) (i7 dues) dues.length (el x) v:=fun v hv=>by rw [hto,aBx _ hv]
 have hdue:=aKU h (el x)
 generalize iV dues (el x) dues.length = l at *
 obtain ⟨best,last,q1,q2,q3,T⟩:=aGv (n:=n) (by omega) hok (by omega) htl hpot
 obtain ⟨e,r1,r2⟩:=aTa (sums:=x) (dues:=dues) (by omega:n <= 1000) htl q2 last l
 rcases r2 with ⟨rfl,r2⟩ | ⟨v,rfl,hv,hv1,hv2⟩
 ·refine .inr ⟨?_,?_⟩
  ·unfold eU
   rw [hst,À,q1,À,r1,À,Á (by decide)]
  ·refine aCI (F:=fun v=>(el best v).fine) (q:=fun v=>(el best v).c) (μ:=fun v=>(el best v).k.toNat) (last:=last) S h.fr h.tt hr ⟨fun w hw hF=>?_,T.closed,fun w hw hR=>T.root w hw ?_⟩ fun w hw hneg=>r2 w hw (by rw [hte w hw]; exact hneg)
   ·rcases T.tree w hw hF with ⟨t1,t2⟩ | t
    ·exact .inl ⟨t1,by have:=Ü t2; rw [hte w hw] at this; exact this⟩
    ·exact .inr t
   ·rw [hte w hw]; exact Í hR
 ·obtain ⟨ks,u,w,hu,hRu,hFu,hk⟩:=T.path _ v (Ġ _) hv hv2
  have hu1:=Ü hRu
  have hkl:∀ k ∈ ks,k < l.length:=fun k hks=>by have:=(hk k hks).1; rwa [È] at this
  obtain ⟨_,hnd⟩:=w.dues S (μ:=fun v=>(el best v).k.toNat) fun k hks=>⟨(hk k hks).1,(hk k hks).2.2.2.1⟩
  have hksl:ks.length <= 100:=by
   have:=TE dues.length _ hnd (fun z hz=>by
    obtain ⟨k,hks,rfl⟩:=Ú.1 hz
    rw [eP aJ l k (hkl k hks)]
    have:=hdue (el l k) (by rw [show el l k = l[k]'(hkl k hks) from by simp [el,hkl k hks]]; exact ú _)
    show (el l k).due.toNat < _
    omega)
   rw [È] at this
   omega
  have hpos:∀ k ∈ ks,0 < (el l k).most:=fun k hks=>by
   obtain ⟨i,b,_,_,hm,e⟩:=S.sound k (hk k hks).1
   rw [← aG9 (hkl k hks),e]; exact hm
  have hbnd:∀ z,z < n->-(100 * 1099511627776) <= el too z ∧ el too z <= 100 * 1099511627776:=fun z hz=>by
   rw [hte z hz]
   have:=SR (fr:=iH dues) (tt:=i7 dues) (x:=el x) (S:=1099511627776) (by omega) dues.length (fun i hi=>by have:=hr i hi; have:=h.each i hi; unfold jN at *; omega) z
   have:(dues.length:Int) * 1099511627776 <= 100 * 1099511627776:=by omega
   omega
  have bv:=hbnd v hv
  have bu:=hbnd u hu
  have hneg0:IntKind.wrap .i64 (0 - el too v) = -el too v:=by rw [gL (by omega) (by omega)]; omega
  have hmm:=aBJ l ks (-el too v)
  have hmp:=X0 l ks (-el too v) (by omega) hpos
  have w1:=aHZ hok q3 n dues too x (best.map qR) v w hv (-el too v)
  generalize hmv:ZC l (-el too v) ks = mm at *
  have hd:0 < (if el too u < mm then el too u else mm) ∧ (if el too u < mm then el too u else mm) <= mm ∧ (if el too u < mm then el too u else mm) <= el too u:=by split <;> omega
  have w2:=aI6 hok q3 (m:=dues.length) hdue n dues too (best.map qR) v (mm,(u:Int)) (el too u) (D:=100 * 1099511627776) (by omega) (by omega) w hv x 1099511627776 hl (fun i=>by
   by_cases hi:i < dues.length
   ·have:=hr i hi; have:=h.each i hi; unfold jN at *; omega
   ·rw [show el x i = 0 by simp [el,show ¬ i < x.length by omega]]; omega) (by
   have:(ks.length:Int) * (100 * 1099511627776) <= 100 * (100 * 1099511627776):=Ő (by omega) (by omega)
   omega)
  dsimp only at w2
  generalize hde:(if el too u < mm then el too u else mm) = d at *
  obtain ⟨m1,m2,m3,m4⟩:=aCg hl S h.fr h.tt hr hp (F:=fun v=>(el best v).fine) T w (fun k hks=>⟨(hk k hks).1,(hk k hks).2.1,(hk k hks).2.2.1,(hk k hks).2.2.2.1,(hk k hks).2.2.2.2.2⟩) (d:=d) (by omega) (fun k hks=>by rw [aG9 (hkl k hks)]; have:=hmm.2 k hks; omega)
  have hne:¬ v = u:=fun e=>by subst e; omega
  refine .inl ⟨X2 n dues (el (u0 (l.map aJ) d x ks)),u0 (l.map aJ) d x ks,?_,rfl,m1,m2,m3,?_⟩
  ·unfold eU
   have cn:¬ decide ((v:Int) < 0) = true:=by simp
   have cv:0 <= (v:Int) ∧ (v:Int).toNat < too.length:=⟨by omega,by rw [Ä]; omega⟩
   have cu:0 <= (u:Int) ∧ (u:Int).toNat < too.length:=⟨by omega,by rw [Ä]; omega⟩
   have ev:too[(v:Int).toNat]? = some (el too v):=by rw [Ä]; exact DH too v (by omega)
   have eu:too[(u:Int).toNat]? = some (el too u):=by rw [Ä]; exact DH too u (by omega)
   have wu:IntKind.wrap .i64 (el too u - d) = el too u - d:=gL (by omega) (by omega)
   have wv:IntKind.wrap .i64 (el too v + d) = el too v + d:=gL (by omega) (by omega)
   have cv2:0 <= (v:Int) ∧ (v:Int).toNat < (too.set (u:Int).toNat (el too u - d)).length:=⟨by omega,by rw [á,Ä]; omega⟩
   have ev2:(too.set (u:Int).toNat (el too u - d))[(v:Int).toNat]? = some (el too v):=by
    rw [Ä,Ä,DH _ _ (by rw [á]; omega),bR,Ã fun q=>hne q.1]
   simp only [hst,q1,r1,À,Ã cn,Á cv,ev,hneg0,w1,Á cu,eu,hde,w2,wu,Á cv2,ev2,wv]
   congr 3
   refine FO (by rw [á,á,htl,Y8]) fun z hz=>?_
   rw [á,á,htl] at hz
   rw [aBx _ hz,m4 z,bR,bR,Ä,Ä,á,htl,← hte z hz]
   by_cases e1:z = v
   ·subst e1
    have hzu:¬ u = z:=fun q=>hne q.symm
    rw [Á ⟨rfl,hz⟩,Á rfl,Ã hzu]; omega
   ·have hvz:¬ v = z:=fun q=>e1 q.symm
    have hc1:¬ (z = v ∧ v < n):=fun q=>e1 q.1
    by_cases e2:z = u
    ·subst e2
     rw [Ã hc1,Ã hvz,Á ⟨rfl,hz⟩,Á rfl]; omega
    ·have huz:¬ u = z:=fun q=>e2 q.symm
     have hc2:¬ (z = u ∧ u < n):=fun q=>e2 q.1
     rw [Ã hc1,Ã hvz,Ã hc2,Ã huz]; omega
  ·have h1:=aHd (dues:=dues) (x:=el x) (y:=el (u0 (l.map aJ) d x ks)) hu (by omega:0 < d) (by rw [← hte u hu]; omega) (by rw [← hte v hv]; omega) m4
   have h2:=aDR (n:=n) (dues:=dues) (el (u0 (l.map aJ) d x ks))
   omega
theorem aH9 (h:D5 n dues) (hl:sums.length = dues.length) (hfull:∀ i,i < dues.length->el sums i = jN dues i):∃ x,oZ n dues sums = some x ∧ x.length = dues.length ∧ oG (iH dues) (i7 dues) (jN dues) n dues.length (el x) ∧ ∃ p,iP (iH dues) (i7 dues) (jN dues) dues.length (el x) p:=by
 have hr:InR (jN dues) dues.length (el sums):=fun i hi=>by have:=h.each i hi; have:=hfull i hi; unfold jN at *; omega
 have hnn:=h.nn
 have hc:iP (iH dues) (i7 dues) (jN dues) dues.length (el sums) fun _=>0:=fun i hi=>⟨fun c=>by rw [hfull i hi] at c; omega,fun _=>by show (0:Int) <= 0 + 1; omega⟩
 unfold oZ
 rw [Á (by omega),Ä,aRa h hl hr,À]
 unfold sD
 obtain ⟨x,h1,h2⟩:=K7 (step:=fun (w:List Int × List Int)=>eU n dues w.1 w.2) (fun w=>w.1 = X2 n dues (el w.2) ∧ w.2.length = dues.length ∧ InR (jN dues) dues.length (el w.2) ∧ ∃ p,iP (iH dues) (i7 dues) (jN dues) dues.length (el w.2) p) (fun w=>(aE9 n dues (el w.2)).toNat)
  (fun x=>x.length = dues.length ∧ oG (iH dues) (i7 dues) (jN dues) n dues.length (el x) ∧ ∃ p,iP (iH dues) (i7 dues) (jN dues) dues.length (el x) p) (fun w ⟨i1,i2,i3,p,i4⟩=>by
   rcases aCj h i1 i2 i3 i4 with ⟨too',x',s1,s2,s3,s4,s5,s6⟩ | ⟨s1,s2⟩
   ·exact .inl ⟨(too',x'),s1,⟨s2,s3,s4,s5⟩,s6⟩
   ·exact .inr ⟨_,s1,i2,s2,p,i4⟩) (X2 n dues (el sums),sums) ⟨rfl,hl,hr,_,hc⟩
 rw [h1]
 exact ⟨x,rfl,h2⟩
end
end
section
open Go.RowKit Vm
def sL (a b:Int):Bool:=decide (a < b)
def E2 (a:Int) (s:c9):Int:=a + s.cost
def aHW (a c:Int) (k:Nat):Int:=a + c
theorem Y5 (a b:Int):sL a b = false ↔ b <= a:=by simp [sL]
theorem aUx:aLZ sL E2 where
 irr a:=by simp [sL]
 asym a b h:=by simp [sL] at *; omega
 neg a b c h1 h2:=by simp [sL] at *; omega
 mono a b s h:=by simp [sL,E2] at *; omega
theorem aSp (cst:c9->Int) (hc:∀ s,cst s = s.cost):aJe sL E2 cst aHW where
 zero a:=by simp [aHW]
 step a c k s:=by
  rw [hc]
  simp only [aHW,E2]
  omega
 le a c k c' k' h:=by
  unfold FD
  rw [Y5]
  simp only [aHW]
  omega
def X7 (n:Nat) (B:Int) (best:List Int):Prop:=∀ v,v < n->-B <= el best v ∧ el best v <= B
theorem T1 {n:Nat} {l:List aC} {best:List Int} {last:List Int} {B:Int} (hl:∀ g ∈ l,GI n g) (hb:best.length = n) (hla:last.length = n) (h:X7 n B best) (hB:0 <= B):∀ k,k <= l.length ->
  (((List.range k).foldl (iN sL E2 c9.src c9.dst (l.map aJ)) (best,last,false)).1.length = n ∧ ((List.range k).foldl (iN sL E2 c9.src c9.dst (l.map aJ)) (best,last,false)).2.1.length = n ∧ X7 n (B + k) ((List.range k).foldl (iN sL E2 c9.src c9.dst (l.map aJ)) (best,last,false)).1):=by
 intro k
 induction k with
 | zero=>intro _; exact ⟨hb,hla,by simpa using h⟩
 | succ k ih =>
  intro hk
  obtain ⟨h1,h2,h3⟩:=ih (by omega)
  rw [Ĉ,ü,ð,ġ]
  generalize (List.range k).foldl (iN sL E2 c9.src c9.dst (l.map aJ)) (best,last,false) = z at *
  have hg:=hl (el l k) (by rw [show el l k = l[k] from by simp [el,show k < l.length by omega]]; exact ú _)
  obtain ⟨⟨g1,g2⟩,⟨g3,g4⟩,g5,g6⟩:=hg
  have hmono:X7 n (B + (k + 1:Nat)) z.1:=fun v hv=>by have:=h3 v hv; omega
  unfold iN
  rw [eP aJ l k (by omega)]
  split
  ·refine ⟨by simp [h1],by simp [h2],fun v hv=>?_⟩
   dsimp only
   rw [bR]
   split
   ·have:=h3 (el l k).from_.toNat (by omega)
    simp only [E2,aJ,c9.src]
    omega
   ·exact hmono v hv
  ·exact ⟨h1,h2,hmono⟩
theorem aJi (a b:Int):xH a b = some (sL a b):=by
 unfold xH vB
 simp [sL]
theorem aEl {n:Nat} {l:List aC} {best:List Int} {last:List Int} {B:Int} (hl:∀ g ∈ l,GI n g) (hb:best.length = n) (hla:last.length = n) (h:X7 n B best) (hB:0 <= B) (hBl:B + l.length <= 4611686018427387904) :
  kV l false 0 best last = some ((tY sL E2 c9.src c9.dst (l.map aJ) best last).2.2,(tY sL E2 c9.src c9.dst (l.map aJ) best last).1,(tY sL E2 c9.src c9.dst (l.map aJ) best last).2.1):=by
 unfold kV tY
 rw [È]
 suffices hh:∃ x,bV (fun (w:Bool × Int × List Int × List Int)=>eM l w.1 w.2.1 w.2.2.1 w.2.2.2) (false,0,best,last) = some x ∧ x = (((List.range l.length).foldl (iN sL E2 c9.src c9.dst (l.map aJ)) (best,last,false)).2.2,((List.range l.length).foldl (iN sL E2 c9.src c9.dst (l.map aJ)) (best,last,false)).1,((List.range l.length).foldl (iN sL E2 c9.src c9.dst (l.map aJ)) (best,last,false)).2.1) by
  obtain ⟨x,h1,h2⟩:=hh
  rw [h2] at h1; exact h1
 refine bO (step:=fun (w:Bool × Int × List Int × List Int)=>eM l w.1 w.2.1 w.2.2.1 w.2.2.2) (fun k (a:List Int × List Int × Bool)=>(a.2.2,(k:Int),a.1,a.2.1)) l.length
  (fun k a=>a = (List.range k).foldl (iN sL E2 c9.src c9.dst (l.map aJ)) (best,last,false)) (fun x=>x = (((List.range l.length).foldl (iN sL E2 c9.src c9.dst (l.map aJ)) (best,last,false)).2.2,((List.range l.length).foldl (iN sL E2 c9.src c9.dst (l.map aJ)) (best,last,false)).1,((List.range l.length).foldl (iN sL E2 c9.src c9.dst (l.map aJ)) (best,last,false)).2.1)) ?_ ?_ (best,last,false) rfl
 ·rintro k a hk rfl
  refine .inl ?_
  obtain ⟨q1,q2,q3⟩:=T1 hl hb hla h hB k (by omega)
  rw [Ĉ,ü,ð,ġ]
  generalize (List.range k).foldl (iN sL E2 c9.src c9.dst (l.map aJ)) (best,last,false) = z at *
  have hg:=hl (el l k) (by rw [show el l k = l[k] from by simp [el,hk]]; exact ú _)
  obtain ⟨⟨g1,g2⟩,⟨g3,g4⟩,g5,g6⟩:=hg
  refine ⟨_,?_,rfl⟩
  unfold eM
  have e1:z.1[(el l k).from_.toNat]? = some (el z.1 (el l k).from_.toNat):=DH z.1 _ (by omega)
  have e2:z.1[(el l k).to.toNat]? = some (el z.1 (el l k).to.toNat):=DH z.1 _ (by omega)
  have b:=q3 (el l k).from_.toNat (by omega)
  have c0:decide ((k:Int) < (l.length:Int)) = true:=by simpa using hk
  have ck:0 <= (k:Int) ∧ (k:Int).toNat < l.length:=⟨by omega,by rw [Ä]; omega⟩
  have ek:l[(k:Int).toNat]? = some (el l k):=by rw [Ä]; exact DH l k hk
  have cF:0 <= (el l k).from_ ∧ (el l k).from_.toNat < z.1.length:=⟨g1,by omega⟩
  have cT:0 <= (el l k).to ∧ (el l k).to.toNat < z.1.length:=⟨g3,by omega⟩
  have cL:0 <= (el l k).to ∧ (el l k).to.toNat < z.2.1.length:=⟨g3,by omega⟩
  have ho:jR (el z.1 (el l k).from_.toNat) (el l k) = some (E2 (el z.1 (el l k).from_.toNat) (aJ (el l k))):=by
   unfold jR
   rw [gL (by omega) (by omega)]
   rfl
  have w3:=aO (n:=k) (by omega)
  have eL:z.2.1[(el l k).to.toNat]? = some (el z.2.1 (el l k).to.toNat):=DH z.2.1 _ (by omega)
  simp only [Á c0,Á ck,ek,À,Á cF,e1,ho,Á cT,e2,aJi,w3,Á cL,eL]
  unfold iN
  rw [eP aJ l k hk]
  have e3:c9.src (aJ (el l k)) = (el l k).from_.toNat:=rfl
  have e4:c9.dst (aJ (el l k)) = (el l k).to.toNat:=rfl
  rw [e3,e4]
  split
  ·rfl
  ·rfl
 ·rintro a rfl
  refine ⟨_,?_,rfl⟩
  unfold eM
  rw [Ã (by simp)]
theorem aAs {n:Nat} {l:List aC} (hl:∀ g ∈ l,GI n g):∀ (f:Nat) (best:List Int) (last:List Int) (B:Int) (b:List Int) (la:List Int),best.length = n->last.length = n->X7 n B best->0 <= B->B + (f * l.length:Nat) <= 4611686018427387904 ->
  Z9 sL E2 c9.src c9.dst (l.map aJ) f best last = some (b,la)->kU l true best last = some (b,la)
 | 0,best,last,B,b,la,_,_,_,_,_,h=>by cases h
 | f + 1,best,last,B,b,la,hb,hla,hB,hB0,hBf,h=>by
  have hmul:(f + 1) * l.length = f * l.length + l.length:=Nat.succ_mul f l.length
  have hr:=aEl hl hb hla hB hB0 (by omega)
  obtain ⟨q1,q2,q3⟩:=T1 hl hb hla hB hB0 l.length (É _)
  have e0:tY sL E2 c9.src c9.dst (l.map aJ) best last = (List.range l.length).foldl (iN sL E2 c9.src c9.dst (l.map aJ)) (best,last,false):=by unfold tY; rw [È]
  rw [← e0] at q1 q2 q3
  simp only [Z9] at h
  generalize tY sL E2 c9.src c9.dst (l.map aJ) best last = z at *
  unfold kU
  rw [uW (s':=(z.2.2,z.1,z.2.1)) (by unfold gV; rw [Á rfl,hr]; rfl)]
  split at h
  ·rename_i hc
   rw [hc]
   exact aAs hl f z.1 z.2.1 (B + l.length) b la q1 q2 q3 (by omega) (by omega) h
  ·rename_i hc
   cases h
   exact pJ (by unfold gV; exact Ã hc)
theorem OC.cost_ge {l:List c9} (hc:∀ i,i < l.length->-1 <= (el l i).cost) {u k v:Nat} {c:Int} (w:OC c9.src c9.dst c9.cost l u k c v):-(k:Int) <= c:=by
 induction w with
 | zero=>omega
 | step i hi _ ih=>have:=hc i hi; omega
structure PP (n:Nat) (l:List c9) (q:Nat->Int):Prop where
 le0:∀ v,v < n->q v <= 0
 lo:∀ v,v < n->-(n:Int) + 1 <= q v
 pot:Pot c9.src c9.dst c9.cost l q
 wk:∀ v,v < n->∃ u k,u < n ∧ OC c9.src c9.dst c9.cost l u k (q v) v
 le:∀ u k c v,u < n->OC c9.src c9.dst c9.cost l u k c v->q v <= c
theorem PP.one {n:Nat} {l:List c9} {q q' : Nat->Int} (h:PP n l q) (h' : PP n l q') {v:Nat} (hv:v < n):q v = q' v:=by
 obtain ⟨u,k,hu,w⟩:=h.wk v hv
 obtain ⟨u',k',hu',w'⟩:=h'.wk v hv
 have a:=h.le u' k' _ v hu' w'
 have b:=h'.le u k _ v hu w
 omega
theorem aMt {n:Nat} {dues:List aI} {x:List Int} (h:D5 n dues) (hl:x.length = dues.length) (hr:InR (jN dues) dues.length (el x)) {p:Nat->Int} (hp:iP (iH dues) (i7 dues) (jN dues) dues.length (el x) p) :
  ∃ q,gU n dues x = some q ∧ q.length = n ∧ PP n ((iV dues (el x) dues.length).map aJ) (el q):=by
 have S:=UE h (el x)
 have hpot:=(KQ S p).1 hp
 have hlen:=h.len
 have hnn:=h.nn
 have hst:=aBq h hl hr
 have hok:=ZD h (el x)
 have hll:=DX dues (el x) dues.length
 have hs:=S.in_ h.fr h.tt
 generalize iV dues (el x) dues.length = l at *
 have hi:∀ v,v < n->el (List.replicate n (0:Int)) v = 0:=fun v hv=>cY _ _ _ hv
 obtain ⟨q,la,h1,h2,h3,h4⟩:=aGE aUx (aSp c9.cost fun _=>rfl) hpot (init:=List.replicate n (0:Int)) (by rw [Ë]; exact hs) (fuel:=n + 1) (by rw [Ë]; exact É _)
 rw [Ë] at h1 h4
 have hmul:(n + 1) * l.length <= 1001 * 100000:=ř (by omega) (by omega)
 have hq:∀ v,v < n->∃ u k,u < n ∧ OC c9.src c9.dst c9.cost (l.map aJ) u k (el q v) v:=by
  intro v hv
  obtain ⟨k,w⟩:=h2.wk v (by rw [Ë]; exact hv)
  obtain ⟨u,c,hu,hw,e⟩:=aKG (aSp c9.cost fun _=>rfl) w
  rw [Ë] at hu
  rw [hi u hu] at e
  have e:el q v = c:=by simpa [aHW] using e
  rw [e]
  exact ⟨u,k,hu,hw⟩
 have hle:∀ u k c v,u < n->OC c9.src c9.dst c9.cost (l.map aJ) u k c v->el q v <= c:=by
  intro u k c v hu w
  have:=h4 u k c v hu w
  unfold FD at this
  rw [Y5,hi u hu] at this
  simpa [aHW] using this
 refine ⟨q,?_,by rw [h2.len,Ë],⟨fun v hv=>hle v 0 0 v hv .zero,fun v hv=>?_,fun i hi'=>?_,hq,hle⟩⟩
 ·unfold gU
  rw [Á (by omega),hst,À,Ä,Ë,aQz (by omega),À,aAs hok (n + 1) _ _ 0 q la Ë Ë (fun v hv=>by rw [hi v hv]; omega) (į _) (by omega) h1]
  rfl
 ·obtain ⟨u,k,hu,w⟩:=hq v hv
  obtain ⟨j,c',hj,w',hc⟩:=w.short hpot hs hu
  have:=hle u j c' v hu w'
  have hge:=w'.cost_ge fun i hi'=>by
   rw [È] at hi'
   rw [eP aJ l i hi']
   exact (hok (el l i) (by rw [show el l i = l[i] from by simp [el,hi']]; exact ú _)).2.2.1
  omega
 ·have:=h3 i hi'
  unfold FD at this
  rw [Y5] at this
  exact this
end
section
open Go.RowKit Vm
theorem aCb {α:Type} [Inhabited α] (l:List α) {k:Nat} (h:k < l.length):l.take (k + 1) = l.take k ++ [el l k]:=by
 rw [List.take_add_one,DH l k h]; rfl
def K6 (p:List Int) (i:Nat) (g:aC):Bool:=decide ((i:Int) < g.due) && decide (el p g.to.toNat = el p g.from_.toNat + g.cost)
def zcG (g:aC):aC:=aC.mk g.due g.from_ g.to 0 g.most g.back
section
variable {n:Nat} {dues:List aI} {p:List Int} {l:List aC}
theorem aOa (hl:∀ g ∈ l,GI n g) (hll:l.length <= 100000) (hp:p.length = n) (hpb:∀ v,v < n->-1000 <= el p v ∧ el p v <= 1000) (i:Nat) (x:List Int):qX n dues p i x l 0 [] = some (l.filter (K6 p i)):=by
 unfold qX
 suffices hh:∃ y,bV (fun (w:Int × List aC)=>e8 n dues p i x l w.1 w.2) (0,[]) = some y ∧ y = l.filter (K6 p i) by
  obtain ⟨y,h1,h2⟩:=hh
  rw [h2] at h1; exact h1
 refine bO (step:=fun (w:Int × List aC)=>e8 n dues p i x l w.1 w.2) (fun k (a:List aC)=>((k:Int),a)) l.length (fun k a=>a = (l.take k).filter (K6 p i)) _ ?_ ?_ _ (by simp)
 ·rintro k a hk rfl
  refine .inl ⟨_,?_,rfl⟩
  have hlen:((l.take k).filter (K6 p i)).length <= 100000:=ñ (Ę _ _) (by rw [ç]; omega)
  obtain ⟨⟨g1,g2⟩,⟨g3,g4⟩,g5,g6⟩:=hl _ (kS _ _ hk)
  rw [aCb l hk,İ]
  generalize (l.take k).filter (K6 p i) = a at *
  show e8 n dues p i x l k a = _
  unfold e8
  have c0:decide ((k:Int) < (l.length:Int)) = true:=by simpa using hk
  have ck:0 <= (k:Int) ∧ (k:Int).toNat < l.length:=⟨by omega,by rw [Ä]; omega⟩
  have ek:l[(k:Int).toNat]? = some (el l k):=by rw [Ä]; exact DH l k hk
  have w3:=aO (n:=k) (by omega)
  have eT:at? p (el l k).to = some (el p (el l k).to.toNat):=by
   have:=bA p (el l k).to.toNat (by omega)
   rwa [ĕ g3] at this
  have eF:at? p (el l k).from_ = some (el p (el l k).from_.toNat):=by
   have:=bA p (el l k).from_.toNat (by omega)
   rwa [ĕ g1] at this
  have bT:=hpb (el l k).to.toNat (by omega)
  have bF:=hpb (el l k).from_.toNat (by omega)
  have wF:IntKind.wrap .i64 (el p (el l k).from_.toNat + (el l k).cost) = el p (el l k).from_.toNat + (el l k).cost:=gL (by omega) (by omega)
  have cL:(a.length + 1) * 48 <= 140737488355328:=by omega
  simp only [Á c0,Á ck,ek,À,eT,eF,wF,w3,Á cL]
  by_cases h1:(i:Int) < (el l k).due
  ·have d1:decide ((el l k).due > (i:Int)) = true:=by simpa using h1
   by_cases h2:el p (el l k).to.toNat = el p (el l k).from_.toNat + (el l k).cost
   ·have d2:(el p (el l k).to.toNat == el p (el l k).from_.toNat + (el l k).cost) = true:=by simpa using h2
    have ht:K6 p i (el l k) = true:=by unfold K6; rw [Í h1,Í h2]; rfl
    rw [Á d1,Á d2,ū ht]
    rfl
   ·have d2:¬ (el p (el l k).to.toNat == el p (el l k).from_.toNat + (el l k).cost) = true:=by simpa using h2
    have ht:¬ K6 p i (el l k) = true:=by unfold K6; rw [û h2]; simp
    rw [Á d1,Ã d2,Ņ ht,ĵ,Û]
  ·have d1:¬ decide ((el l k).due > (i:Int)) = true:=by simpa using h1
   have ht:¬ K6 p i (el l k) = true:=by unfold K6; rw [û h1]; simp
   rw [Ã d1,Ņ ht,ĵ,Û]
 ·rintro a rfl
  rw [ì]
  refine ⟨_,?_,rfl⟩
  show e8 n dues p i x l l.length _ = _
  unfold e8
  rw [Ã (by simp)]
theorem aRV (hll:l.length <= 100000) (i:Int) (x:List Int) (d:aI):qV n dues p i x l d 0 l = some (l.map zcG):=by
 unfold qV
 suffices hh:∃ y,bV (fun (w:Int × List aC)=>eZ n dues p i x l d w.1 w.2) (0,l) = some y ∧ y = l.map zcG by
  obtain ⟨y,h1,h2⟩:=hh
  rw [h2] at h1; exact h1
 refine bO (step:=fun (w:Int × List aC)=>eZ n dues p i x l d w.1 w.2) (fun k (a:List aC)=>((k:Int),a)) l.length (fun k a=>a.length = l.length ∧ ∀ j,j < l.length->el a j = if j < k then zcG (el l j) else el l j) _ ?_ ?_ _ ⟨rfl,fun j hj=>by rw [Ã (í _)]⟩
 ·rintro k a hk ⟨h1,h2⟩
  refine .inl ⟨a.set k (zcG (el l k)),?_,by simp [h1],fun j hj=>?_⟩
  ·show eZ n dues p i x l d k a = _
   unfold eZ
   have c0:decide ((k:Int) < (l.length:Int)) = true:=by simpa using hk
   have ck:0 <= (k:Int) ∧ (k:Int).toNat < a.length:=⟨by omega,by rw [Ä]; omega⟩
   have ek:a[(k:Int).toNat]? = some (el l k):=by rw [Ä,DH a k (by omega),h2 k hk,Ã (Nat.lt_irrefl _)]
   have w3:=aO (n:=k) (by omega)
   simp only [Á c0,Á ck,ek,À,w3]
   rfl
  ·rw [bR,h2 j hj]
   by_cases e:j = k
   ·subst e
    rw [Á ⟨rfl,by omega⟩,Á (Ġ _)]
   ·rw [Ã fun q=>e q.1]
    by_cases c:j < k
    ·rw [Á c,Á (by omega)]
    ·rw [Ã c,Ã (by omega)]
 ·rintro a ⟨h1,h2⟩
  refine ⟨a,?_,?_⟩
  ·show eZ n dues p i x l d l.length a = _
   unfold eZ
   rw [Ã (by simp)]
  ·refine FO (by rw [h1,È]) fun j hj=>?_
   rw [h1] at hj
   rw [h2 j hj,Á hj,eP zcG l j hj]
theorem aDf {e:aC} {fr tt:Nat->Nat} {s x:Nat->Int} {cc:Bool->Int} {i:Nat} {b:Bool} (h:aJ e = G8 fr tt s x cc i b):aJ (zcG e) = G8 fr tt s x (fun _=>0) i b:=by
 have h1:e.due = i:=Ą c9.due h
 have h2:=Ą c9.sf h
 have h3:=Ą c9.st h
 have h4:=Ą c9.most h
 have h5:=Ą c9.back h
 simp only [aJ,G8] at h2 h3 h4 h5
 simp only [aJ,G8,zcG,h1,h2,h3,h4,h5]
theorem aL3 (h:D5 n dues) (x:Nat->Int) (p:List Int) (i:Nat):lY (iH dues) (i7 dues) (jN dues) dues.length x (aA2 (iH dues) (i7 dues) (el p) i) (fun _=>0) ((((iV dues x dues.length).filter (K6 p i)).map zcG).map aJ):=by
 have ht:∀ j b,j < dues.length->(K6 p i (pD dues x j b) = true ↔ aA2 (iH dues) (i7 dues) (el p) i j b):=by
  intro j b hj
  unfold K6 aA2 iH i7 QF
  rw [Ø,Ò,Ò]
  cases b <;> simp [pD]
 constructor
 ·intro k hk
  rw [È,È] at hk
  rw [eP aJ _ k (by rw [È]; exact hk),eP zcG _ k hk]
  have hm:=kS _ _ hk
  rw [ă] at hm
  obtain ⟨hm1,hm2⟩:=hm
  obtain ⟨j,b,hj,e,hm⟩:=D1.1 hm1
  rw [e] at hm2 ⊢
  refine ⟨j,b,hj,(ht j b hj).1 hm2,?_,aDf (pI h hj b)⟩
  have e2:(G8 (iH dues) (i7 dues) (jN dues) x (fun _=>0) j b).most = (aJ (pD dues x j b)).most:=by rw [pI h hj]; rfl
  rw [e2]; exact hm
 ·intro j b hj hT hm
  have e2:(G8 (iH dues) (i7 dues) (jN dues) x (fun _=>0) j b).most = (aJ (pD dues x j b)).most:=by rw [pI h hj]; rfl
  rw [e2] at hm
  have h1:=(D1 (dues:=dues) (x:=x) (m:=dues.length)).2 ⟨j,b,hj,rfl,hm⟩
  have h2:=ă.2 ⟨h1,(ht j b hj).2 hT⟩
  obtain ⟨k,hk,e⟩:=E9 h2
  refine ⟨k,by rw [È,È]; exact hk,?_⟩
  rw [eP aJ _ k (by rw [È]; exact hk),eP zcG _ k hk,e]
  exact aDf (pI h hj b)
theorem aE8 (hl:∀ g ∈ l,GI n g) {last:List Int} (hla:last.length = n) {m:Nat} (hdue:∀ g ∈ l,0 <= g.due ∧ g.due < m) (a0:Int) (a1:List aI) (a3:List Int) (a4:Int) (best:List aE) {d D:Int} (hd0:0 <= d) (hdD:d <= D) {v u:Nat} {ks:List Nat} (w:Pth (l.map aJ) last v ks u):v < n->∀ (x:List Int) (B:Int),x.length = m->(∀ i,-B <= el x i ∧ el x i <= B)->B + (ks.length:Int) * D <= 4611686018427387904 ->
  kP a0 a1 a3 a4 l (best,last) d v x = some (u0 (l.map aJ) d x ks):=by
 induction w with
 | nil v hv =>
  intro hvn x B hxm hx hB
  unfold kP
  refine pJ ?_
  show gQ a0 a1 a3 a4 l (best,last) d v x = _
  unfold gQ
  dsimp only
  rw [Á ⟨by omega,by rw [Ä]; omega⟩,Ä,DH last v (by omega),hv]
  rfl
 | @cons v k u ks hk hlv hd w ih =>
  intro hvn x B hxm hx hB
  rw [È] at hk
  obtain ⟨q1,q2⟩:=aBF hl hk
  obtain ⟨b1,b2⟩:=QR (l:=l) (last:=last) (by omega:v < last.length) hlv hk
  have hg:=hdue (el l k) (kS _ _ hk)
  have hD0:0 <= D:=by omega
  have hks:((k :: ks).length:Int) * D = (ks.length:Int) * D + D:=by
   rw [ï]; rw [show ((ks.length + 1:Nat):Int) = (ks.length:Int) + 1 by omega,Int.add_mul,Int.one_mul]
  have hpos:0 <= (ks.length:Int) * D:=Int.mul_nonneg (by omega) hD0
  have hmv:=aKV (g:=el l k) (x:=x) (B:=B) hg.1 (by omega) hx hd0 hdD (by omega)
  unfold kP
  rw [uW (s':=((el l k).from_,x.set (el l k).due.toNat (el x (el l k).due.toNat + XQ (aJ (el l k)) d))) ?_]
  ·have hsg:-D <= XQ (aJ (el l k)) d ∧ XQ (aJ (el l k)) d <= D:=by unfold XQ; split <;> omega
   have hxd:=hx (el l k).due.toNat
   have:=ih q1 (x.set (el l k).due.toNat (el x (el l k).due.toNat + XQ (aJ (el l k)) d)) (B + D) (by rw [á]; exact hxm) (aA0 hx (by omega) (by omega) hD0) (by omega)
   unfold kP at this
   rw [q2,this,u0,eP aJ l k hk]
   rfl
  ·show gQ a0 a1 a3 a4 l (best,last) d v x = _
   unfold gQ
   dsimp only
   have cv:0 <= (v:Int) ∧ (v:Int).toNat < last.length:=⟨by omega,by rw [Ä]; omega⟩
   have ck:0 <= (k:Int) ∧ (k:Int).toNat < l.length:=⟨by omega,by rw [Ä]; exact hk⟩
   have cg:decide ((k:Int) ≥ 0) = true:=by simp
   simp only [Á cv,Á ck,b1,b2,À,Á cg,hmv]
end
end
section
open Go.RowKit Vm
section
variable {n:Nat} {dues:List aI} {p:List Int}
theorem aF3 (h:D5 n dues) (hp:p.length = n) (hpb:∀ v,v < n->-1000 <= el p v ∧ el p v <= 1000) {i:Nat} (hi:i < dues.length) {x:List Int} (hl:x.length = dues.length) (hB:oG (iH dues) (i7 dues) (jN dues) n dues.length (el x)) (hc:iP (iH dues) (i7 dues) (jN dues) dues.length (el x) (el p)) (hpi:el p (i7 dues i) = el p (iH dues i) - 1) :
  (∃ x',d8 n dues p i x = some (.inl x') ∧ x'.length = dues.length ∧ oG (iH dues) (i7 dues) (jN dues) n dues.length (el x') ∧ iP (iH dues) (i7 dues) (jN dues) dues.length (el x') (el p) ∧ (∀ j,j < i->el x' j = el x j) ∧ (el (dues.map (·.Sum)) i - el x' i).toNat < (el (dues.map (·.Sum)) i - el x i).toNat) ∨
  ((d8 n dues p i x = some (.inr (.inl x)) ∨ d8 n dues p i x = some (.inr (.inr x))) ∧ BZ (iH dues) (i7 dues) (jN dues) n dues.length (el x) i):=by
 have hr:InR (jN dues) dues.length (el x):=fun j hj=>⟨hB.lo j hj,hB.hi j hj⟩
 have hst:=aBq h hl hr
 have hok:=ZD h (el x)
 have hll:=DX dues (el x) dues.length
 have hlen:=h.len
 have hnn:=h.nn
 have hdi:=h.each i hi
 have hxi:=hr i hi
 have S:=aL3 h (el x) p i
 have hdue:=aKU h (el x)
 have c4:0 <= (i:Int) ∧ (i:Int).toNat < x.length:=⟨by omega,by rw [Ä]; omega⟩
 have e4:x[(i:Int).toNat]? = some (el x i):=by rw [Ä]; exact DH x i (by omega)
 have eD:=bA dues i hi
 by_cases hfull:el x i < jN dues i
 ·have hfull' : decide (el x i < (el dues i).Sum) = true:=by simpa [jN] using hfull
  have hti:=aOa (dues:=dues) hok (by omega) hp hpb i x
  have hl1:∀ g ∈ ((iV dues (el x) dues.length).filter (K6 p i)).map zcG,GI n g:=by
   intro g hg
   obtain ⟨g',hg',rfl⟩:=Ú.1 hg
   have:=hok g' (ă.1 hg').1
   exact ⟨this.1,this.2.1,by simp [zcG]⟩
  have hl2:∀ g ∈ ((iV dues (el x) dues.length).filter (K6 p i)).map zcG,0 <= g.due ∧ g.due < (dues.length:Nat):=by
   intro g hg
   obtain ⟨g',hg',rfl⟩:=Ú.1 hg
   exact hdue g' (ă.1 hg').1
  have hfl:((iV dues (el x) dues.length).filter (K6 p i)).length <= 200:=ñ (Ę _ _) (by omega)
  have hz:=aRV (n:=n) (dues:=dues) (p:=p) (l:=(iV dues (el x) dues.length).filter (K6 p i)) (by omega) i x (el dues i)
  have hl3:(((iV dues (el x) dues.length).filter (K6 p i)).map zcG).length <= 200:=by rw [È]; exact hfl
  generalize (iV dues (el x) dues.length).filter (K6 p i) = l0 at *
  generalize l0.map zcG = l at *
  have hpot:Pot c9.src c9.dst c9.cost (l.map aJ) fun _=>0:=by
   intro k hk
   obtain ⟨j,b,_,_,_,e⟩:=S.sound k hk
   rw [e]
   show (0:Int) <= 0 + 0
   omega
  have htoo:((List.replicate n (0:Int)).set (el dues i).To.toNat 1).length = n:=by rw [á,Ë]
  obtain ⟨best,last,q1,q2,q3,T⟩:=aGv (n:=n) (by omega) hl1 (by omega) htoo hpot
  have hroot:∀ v,v < n->(decide (el ((List.replicate n (0:Int)).set (el dues i).To.toNat 1) v > 0) = true ↔ v = i7 dues i):=by
   intro v hv
   rw [Ò,bR,Ë,cY _ _ _ hv]
   unfold i7
   by_cases e:v = (el dues i).To.toNat
   ·rw [Á ⟨e,by omega⟩]; simp [e]
   ·rw [Ã fun q=>e q.1]; simp [e]
  have cT:0 <= (el dues i).To ∧ (el dues i).To.toNat < (List.replicate n (0:Int)).length:=⟨by omega,by rw [Ë]; omega⟩
  have eT:(List.replicate n (0:Int))[(el dues i).To.toNat]? = some 0:=by rw [DH _ _ (by rw [Ë]; omega),cY _ _ _ (by omega)]
  have cF:0 <= (el dues i).From ∧ (el dues i).From.toNat < (best.map qR).length:=⟨by omega,by rw [È]; omega⟩
  have eF:(best.map qR)[(el dues i).From.toNat]? = some (qR (el best (iH dues i))):=by rw [Ç,DH best _ (by omega)]; rfl
  have c0:0 <= (n:Int) ∧ (n:Int) <= (n:Int) ∧ 8 * (n:Int) <= 281474976710656 ∧ (n:Int) <= 9223372036854775807:=by omega
  have hgf:(qR (el best (iH dues i))).fine = (el best (iH dues i)).fine:=rfl
  by_cases hf:(el best (iH dues i)).fine = true
  ·obtain ⟨ks,u,w,hu,hRu,hFu,hk⟩:=T.path _ (iH dues i) (Ġ _) (h.fr i hi) hf
   obtain rfl:=(hroot u hu).1 hRu
   have hkl:∀ k ∈ ks,k < l.length:=fun k hks=>by have:=(hk k hks).1; rwa [È] at this
   have hk' : ∀ k ∈ ks,k < (l.map aJ).length ∧ (fun v=>(el best v).k.toNat) (el (l.map aJ) k).src < (fun v=>(el best v).k.toNat) (el (l.map aJ) k).dst:=fun k hks=>⟨(hk k hks).1,(hk k hks).2.2.2.1⟩
   obtain ⟨_,hnd⟩:=w.dues S (μ:=fun v=>(el best v).k.toNat) hk'
   have hksl:ks.length <= 100:=by
    have:=TE dues.length _ hnd (fun z hz=>by
     obtain ⟨k,hks,rfl⟩:=Ú.1 hz
     rw [eP aJ l k (hkl k hks)]
     have:=hl2 (el l k) (kS _ _ (hkl k hks))
     show (el l k).due.toNat < _
     omega)
    rw [È] at this
    omega
   have hpos:∀ k ∈ ks,0 < (el l k).most:=fun k hks=>by
    obtain ⟨j,b,_,_,hm,e⟩:=S.sound k (hk k hks).1
    rw [← aG9 (hkl k hks),e]; exact hm
   unfold jN at hfull hxi
   have hmm:=aBJ l ks ((el dues i).Sum - el x i)
   have hmp:=X0 l ks ((el dues i).Sum - el x i) (by omega) hpos
   have w1:=aFo hl1 q3 n dues p i x (best.map qR) w (h.fr i hi) ((el dues i).Sum - el x i)
   have hfrE:((iH dues i:Nat):Int) = (el dues i).From:=by unfold iH; omega
   rw [hfrE] at w1
   generalize ZC l ((el dues i).Sum - el x i) ks = d at *
   have w2:=aE8 hl1 q3 (m:=dues.length) hl2 n dues p i (best.map qR) (d:=d) (D:=1099511627776) (by omega) (by omega) w (h.fr i hi) x 1099511627776 hl (fun j=>by
    by_cases hj:j < dues.length
    ·have:=hr j hj; have:=h.each j hj; unfold jN at *; omega
    ·rw [show el x j = 0 by simp [el,show ¬ j < x.length by omega]]; omega) (by
    have:(ks.length:Int) * 1099511627776 <= 100 * 1099511627776:=Ő (by omega) (by omega)
    omega)
   rw [hfrE] at w2
   obtain ⟨m0,m1,m2,m3,m4,m5⟩:=aEm hl hi S hB hc hpi (μ:=fun v=>(el best v).k.toNat) w hk' (d:=d) (by omega) (fun k hks=>by rw [aG9 (hkl k hks)]; exact hmm.2 k hks) (by unfold jN; omega)
   refine .inl ⟨_,?_,m1,m2,m3,m4,?_⟩
   ·unfold d8
    have wS:IntKind.wrap .i64 ((el dues i).Sum - el x i) = (el dues i).Sum - el x i:=gL (by omega) (by omega)
    have hml:(u0 (l.map aJ) d x ks).length = dues.length:=by rw [EB,hl]
    have c5:0 <= (i:Int) ∧ (i:Int).toNat < (u0 (l.map aJ) d x ks).length:=⟨by omega,by rw [Ä]; omega⟩
    have e5:(u0 (l.map aJ) d x ks)[(i:Int).toNat]? = some (el (u0 (l.map aJ) d x ks) i):=by rw [Ä]; exact DH _ i (by omega)
    have w5:IntKind.wrap .i64 (el (u0 (l.map aJ) d x ks) i + d) = el (u0 (l.map aJ) d x ks) i + d:=by rw [m0]; exact gL (by omega) (by omega)
    have cn:¬ (!(el best (iH dues i)).fine) = true:=by rw [hf]; decide
    simp only [Á c4,e4,À,eD,Á hfull',hst,hti,Á c0,Ä n,Á cT,eT,hz,q1,Á cF,eF,hgf,Ã cn,wS,w1,w2,Á c5,e5,w5]
    rw [Ä]
   ·rw [eP (·.Sum) dues i hi,m5]
    omega
  ·refine .inr ⟨.inr ?_,?_⟩
   ·unfold d8
    have cn:(!(el best (iH dues i)).fine) = true:=by simpa using hf
    simp only [Á c4,e4,À,eD,Á hfull',hst,hti,Á c0,Ä n,Á cT,eT,hz,q1,Á cF,eF,hgf,Á cn]
   ·refine aIY hi h.fr h.tt hB hc S (F:=fun v=>(el best v).fine) (fun k hk hF=>(T.closed k hk hF).1) (T.root _ (h.tt i hi) ((hroot _ (h.tt i hi)).2 rfl)) (by simpa using hf)
 ·refine .inr ⟨.inl ?_,ZT hi (by omega)⟩
  unfold d8
  have hfull' : ¬ decide (el x i < (el dues i).Sum) = true:=by simpa [jN] using hfull
  rw [Á c4,e4,À,eD,À,Ã hfull']
theorem aO0 (h:D5 n dues) (hp:p.length = n) (hpb:∀ v,v < n->-1000 <= el p v ∧ el p v <= 1000) {i:Nat} (hi:i < dues.length) {x:List Int} (hl:x.length = dues.length) (hB:oG (iH dues) (i7 dues) (jN dues) n dues.length (el x)) (hc:iP (iH dues) (i7 dues) (jN dues) dues.length (el x) (el p)) :
  ∃ x',rZ n dues x p i = some x' ∧ x'.length = dues.length ∧ oG (iH dues) (i7 dues) (jN dues) n dues.length (el x') ∧ iP (iH dues) (i7 dues) (jN dues) dues.length (el x') (el p) ∧ (∀ j,j < i->el x' j = el x j) ∧ BZ (iH dues) (i7 dues) (jN dues) n dues.length (el x') i:=by
 have hdi:=h.each i hi
 have hnn:=h.nn
 have eD:=bA dues i hi
 have eT:at? p (el dues i).To = some (el p (i7 dues i)):=by
  have:=bA p (el dues i).To.toNat (by omega)
  rwa [ĕ hdi.2.1.1] at this
 have eF:at? p (el dues i).From = some (el p (iH dues i)):=by
  have:=bA p (el dues i).From.toNat (by omega)
  rwa [ĕ hdi.1.1] at this
 have bF:=hpb _ (h.fr i hi)
 unfold rZ
 rw [eD,À,eT,À,À,eF,À,gL (by omega) (by omega)]
 by_cases hpi:el p (i7 dues i) = el p (iH dues i) - 1
 ·have cn:¬ (el p (i7 dues i) != el p (iH dues i) - 1) = true:=by simpa using hpi
  rw [Ã cn]
  unfold wD
  obtain ⟨z,h1,h2⟩:=K7 (step:=fun (w:List Int)=>d8 n dues p i w) (fun w=>w.length = dues.length ∧ oG (iH dues) (i7 dues) (jN dues) n dues.length (el w) ∧ iP (iH dues) (i7 dues) (jN dues) dues.length (el w) (el p) ∧ ∀ j,j < i->el w j = el x j) (fun w=>(el (dues.map (·.Sum)) i - el w i).toNat)
   (fun z=>∃ x' : List Int,(z = .inl x' ∨ z = .inr x') ∧ x'.length = dues.length ∧ oG (iH dues) (i7 dues) (jN dues) n dues.length (el x') ∧ iP (iH dues) (i7 dues) (jN dues) dues.length (el x') (el p) ∧ (∀ j,j < i->el x' j = el x j) ∧ BZ (iH dues) (i7 dues) (jN dues) n dues.length (el x') i) (fun w ⟨i1,i2,i3,i4⟩=>by
    rcases aF3 h hp hpb hi i1 i2 i3 hpi with ⟨x',s1,s2,s3,s4,s5,s6⟩ | ⟨s1 | s1,s2⟩
    ·exact .inl ⟨x',s1,⟨s2,s3,s4,fun j hj=>by rw [s5 j hj,i4 j hj]⟩,s6⟩
    ·exact .inr ⟨_,s1,w,.inl rfl,i1,i2,i3,i4,s2⟩
    ·exact .inr ⟨_,s1,w,.inr rfl,i1,i2,i3,i4,s2⟩) x ⟨hl,hB,hc,fun _ _=>rfl⟩
  obtain ⟨x',h3,h4⟩:=h2
  refine ⟨x',?_,h4⟩
  rw [h1,À]
  rcases h3 with rfl | rfl <;> rfl
 ·have cn:(el p (i7 dues i) != el p (iH dues i) - 1) = true:=by simpa using hpi
  rw [Á cn]
  exact ⟨x,rfl,hl,hB,hc,fun _ _=>rfl,V3 hi h.fr h.tt hB hc hpi⟩
structure ZP (n:Nat) (dues:List aI) (x q:List Int):Prop where
 len:x.length = dues.length
 lenQ:q.length = n
 bald:oG (iH dues) (i7 dues) (jN dues) n dues.length (el x)
 cert:iP (iH dues) (i7 dues) (jN dues) dues.length (el x) (el q)
 lex:∀ i,i < dues.length->BZ (iH dues) (i7 dues) (jN dues) n dues.length (el x) i
 least:PP n ((iV dues (el x) dues.length).map aJ) (el q)
theorem ZP.one {x q x' q' : List Int} (h:D5 n dues) (a:ZP n dues x q) (b:ZP n dues x' q'):x = x' ∧ q = q':=by
 have hs:eY (el x) dues.length = eY (el x') dues.length:=by
  have h1:=KZ h.fr h.tt a.bald b.bald a.cert
  have h2:=KZ h.fr h.tt b.bald a.bald b.cert
  omega
 have e:=aPJ a.bald b.bald hs a.lex b.lex
 have e1:x = x':=FO (by rw [a.len,b.len]) fun i hi=>e i (by rw [← a.len]; exact hi)
 subst e1
 refine ⟨rfl,FO (by rw [a.lenQ,b.lenQ]) fun v hv=>a.least.one b.least (by rw [← a.lenQ]; exact hv)⟩
theorem aRr (h:D5 n dues):qP n dues 0 (List.replicate dues.length (0:Int)) = some (dues.map (·.Sum)):=by
 unfold qP
 have hlen:=h.len
 suffices hh:∃ y,bV (fun (w:Int × List Int)=>e7 n dues w.1 w.2) (0,List.replicate dues.length (0:Int)) = some y ∧ y = dues.map (·.Sum) by
  obtain ⟨y,h1,h2⟩:=hh
  rw [h2] at h1; exact h1
 refine bO (step:=fun (w:Int × List Int)=>e7 n dues w.1 w.2) (fun k (a:List Int)=>((k:Int),a)) dues.length (fun k a=>a.length = dues.length ∧ ∀ j,j < k->el a j = (el dues j).Sum) _ ?_ ?_ _ ⟨Ë,fun j hj=>absurd hj (í _)⟩
 ·rintro k a hk ⟨h1,h2⟩
  refine .inl ⟨a.set k (el dues k).Sum,?_,by simp [h1],fun j hj=>?_⟩
  ·show e7 n dues k a = _
   unfold e7
   have c0:decide ((k:Int) < (dues.length:Int)) = true:=by simpa using hk
   have ck:0 <= (k:Int) ∧ (k:Int).toNat < a.length:=⟨by omega,by rw [Ä]; omega⟩
   have ek:a[(k:Int).toNat]? = some (el a k):=by rw [Ä]; exact DH a k (by omega)
   have w3:=aO (n:=k) (by omega)
   simp only [Á c0,bA dues k hk,À,Á ck,ek,w3]
   rw [Ä]
  ·rw [bR]
   by_cases e:j = k
   ·subst e; rw [Á ⟨rfl,by omega⟩]
   ·rw [Ã fun q=>e q.1]; exact h2 j (by omega)
 ·rintro a ⟨h1,h2⟩
  refine ⟨a,?_,?_⟩
  ·show e7 n dues dues.length a = _
   unfold e7
   rw [Ã (by simp)]
  ·refine FO (by rw [h1,È]) fun j hj=>?_
   rw [h1] at hj
   rw [h2 j hj,eP (·.Sum) dues j hj]
theorem PP.cert (h:D5 n dues) {x:List Int} {q:Nat->Int} (hq:PP n ((iV dues (el x) dues.length).map aJ) q):iP (iH dues) (i7 dues) (jN dues) dues.length (el x) q :=
 (KQ (UE h (el x)) q).2 hq.pot
theorem aQF (h:D5 n dues) (hR:mK n dues = some true):∃ x q,pG n dues = some (x,q,0) ∧ ZP n dues x q:=by
 have hlen:=h.len
 have hnn:=h.nn
 unfold pG
 rw [hR,À,Ã (by decide),Á (by omega),Ä,aRr h,À]
 obtain ⟨x0,a1,a2,a3,p0,a4⟩:=aH9 h (sums:=dues.map (·.Sum)) (by rw [È]) fun i hi=>by rw [eP (·.Sum) dues i hi]; rfl
 obtain ⟨q0,b1,b2,b3⟩:=aMt h a2 (fun i hi=>⟨a3.lo i hi,a3.hi i hi⟩) a4
 have b4:=b3.cert h
 have hpb:∀ v,v < n->-1000 <= el q0 v ∧ el q0 v <= 1000:=fun v hv=>by have:=b3.le0 v hv; have:=b3.lo v hv; omega
 rw [a1,À,b1,À]
 have hl2:∃ x,rC n dues q0 0 x0 = some x ∧ x.length = dues.length ∧ oG (iH dues) (i7 dues) (jN dues) n dues.length (el x) ∧ iP (iH dues) (i7 dues) (jN dues) dues.length (el x) (el q0) ∧ ∀ i,i < dues.length->BZ (iH dues) (i7 dues) (jN dues) n dues.length (el x) i:=by
  unfold rC
  refine bO (step:=fun (w:Int × List Int)=>fQ n dues q0 w.1 w.2) (fun k (a:List Int)=>((k:Int),a)) dues.length (fun k a=>a.length = dues.length ∧ oG (iH dues) (i7 dues) (jN dues) n dues.length (el a) ∧ iP (iH dues) (i7 dues) (jN dues) dues.length (el a) (el q0) ∧ ∀ i,i < k->BZ (iH dues) (i7 dues) (jN dues) n dues.length (el a) i) _ ?_ ?_ _ ⟨a2,a3,b4,fun j hj=>absurd hj (í _)⟩
  ·rintro k a hk ⟨i1,i2,i3,i4⟩
   obtain ⟨x',r1,r2,r3,r4,r5,r6⟩:=aO0 h b2 hpb hk i1 i2 i3
   refine .inl ⟨x',?_,r2,r3,r4,fun j hj=>?_⟩
   ·show fQ n dues q0 k a = _
    unfold fQ
    have c0:decide ((k:Int) < (dues.length:Int)) = true:=by simpa using hk
    rw [Á c0,r1,À,aO (by omega)]
   ·by_cases e:j = k
    ·subst e; exact r6
    ·exact (i4 j (by omega)).keep (fun j' hj'=>r5 j' (by omega)) (KZ h.fr h.tt r3 i2 r4)
  ·rintro a hI
   refine ⟨a,?_,hI⟩
   show fQ n dues q0 dues.length a = _
   unfold fQ
   rw [Ã (by simp)]
 obtain ⟨x,d1,d2,d3,d4,d5⟩:=hl2
 obtain ⟨q,f1,f2,f3⟩:=aMt h d2 (fun i hi=>⟨d3.lo i hi,d3.hi i hi⟩) d4
 rw [d1,À,f1,À]
 exact ⟨x,q,rfl,d2,f2,d3,f3.cert h,d5,f3⟩
end
end
section
open Go.RowKit Vm
def kK (n:Int) (d:aI):Prop:=(0 <= d.From ∧ d.From < n) ∧ (0 <= d.To ∧ d.To < n) ∧ d.From ≠ d.To ∧ 1 <= d.Sum ∧ d.Sum <= 1099511627776
instance (n:Int) (d:aI):Decidable (kK n d):=by unfold kK; exact inferInstance
def LZ (n:Int) (dues:List aI):Bool:=decide (0 <= n ∧ n <= 40) && decide (dues.length <= 100) && wR (fun i=>decide (kK n (el dues i))) dues.length
theorem SG {n:Int} {dues:List aI}:LZ n dues = true ↔ ∃ m:Nat,n = m ∧ D5 m dues:=by
 unfold LZ
 rw [Ø,Ø,Ò,Ò,iT]
 constructor
 ·rintro ⟨⟨⟨h1,h2⟩,h3⟩,h4⟩
  refine ⟨n.toNat,by omega,⟨by omega,h3,fun i hi=>?_⟩⟩
  have:=Ü (h4 i hi)
  unfold kK at this
  omega
 ·rintro ⟨m,rfl,h⟩
  refine ⟨⟨⟨by omega,by have:=h.nn; omega⟩,h.len⟩,fun i hi=>Í (h.each i hi)⟩
theorem aGH (n:Int) (dues:List aI):mK n dues = some (LZ n dues):=by
 unfold mK LZ
 by_cases h1:0 <= n ∧ n <= 40
 ·have c1:¬ decide (n < 0) = true:=by simp; omega
  have c2:¬ decide (n > 40) = true:=by simp; omega
  rw [Ã c1,Ã c2,Í h1]
  by_cases h2:dues.length <= 100
  ·have c3:¬ decide ((dues.length:Int) > 100) = true:=by simp; omega
   rw [Ã c3,Í h2]
   have key:qZ n dues 0 = some (if wR (fun i=>decide (kK n (el dues i))) dues.length = true then .inl () else .inr ()):=by
    unfold qZ
    refine oC? (step:=fun w=>fU n dues w) (fun i:Nat=>(i:Int)) dues.length (fun i=>decide (kK n (el dues i))) () ?_ ?_
    ·intro i hi
     show fU n dues i = _
     unfold fU
     have w3:=aO (n:=i) (by omega)
     have c0:decide ((i:Int) < (dues.length:Int)) = true:=by simpa using hi
     simp only [Á c0,bA dues i hi,À,w3]
     simp only [Ò,beq_iff_eq]
     generalize el dues i = d
     by_cases a1:d.From < 0
     ·have hno:¬ kK n d:=by unfold kK; omega
      rw [Á a1,Ã hno]
     rw [Ã a1]
     by_cases a2:d.From ≥ n
     ·have hno:¬ kK n d:=by unfold kK; omega
      rw [Á a2,Ã hno]
     rw [Ã a2]
     by_cases a3:d.To < 0
     ·have hno:¬ kK n d:=by unfold kK; omega
      rw [Á a3,Ã hno]
     rw [Ã a3]
     by_cases a4:d.To ≥ n
     ·have hno:¬ kK n d:=by unfold kK; omega
      rw [Á a4,Ã hno]
     rw [Ã a4]
     by_cases a5:d.From = d.To
     ·have hno:¬ kK n d:=by unfold kK; omega
      rw [Á a5,Ã hno]
     rw [Ã a5]
     by_cases a6:d.Sum < 1
     ·have hno:¬ kK n d:=by unfold kK; omega
      rw [Á a6,Ã hno]
     rw [Ã a6]
     by_cases a7:d.Sum > 1099511627776
     ·have hno:¬ kK n d:=by unfold kK; omega
      rw [Á a7,Ã hno]
     rw [Ã a7,Á (show kK n d by unfold kK; omega)]
    ·show fU n dues dues.length = _
     unfold fU
     rw [Ã (by simp)]
   rw [key,À]
   cases wR (fun i=>decide (kK n (el dues i))) dues.length <;> rfl
  ·have c3:decide ((dues.length:Int) > 100) = true:=by simp; omega
   rw [Á c3,û h2]; rfl
 ·rw [û h1]
  by_cases h2:n < 0
  ·rw [Á (Í h2)]; rfl
  ·have c1:¬ decide (n < 0) = true:=by simpa using h2
   have c2:decide (n > 40) = true:=by simp; omega
   rw [Ã c1,Á c2]; rfl
theorem aDu (n:Int) (dues:List aI):jY n dues = some (LZ n dues):=by
 unfold jY
 have key:lX n dues 0 = some (if wR (fun i=>decide (kK n (el dues i))) (min dues.length 101) = true then .inl () else .inr ()):=by
  unfold lX
  refine oC? (step:=fun w=>dY n dues w) (fun i:Nat=>(i:Int)) (min dues.length 101) (fun i=>decide (kK n (el dues i))) () ?_ ?_
  ·intro i hi
   show dY n dues i = _
   unfold dY
   have w3:=aO (n:=i) (by omega)
   have c0:decide ((i:Int) < (dues.length:Int)) = true:=by simp; omega
   have c1:decide ((i:Int) <= 100) = true:=by simp; omega
   simp only [Á c0,Á c1,bA dues i (by omega),À,w3]
   simp only [Ò,beq_iff_eq]
   generalize el dues i = d
   by_cases a1:d.From < 0
   ·have hno:¬ kK n d:=by unfold kK; omega
    rw [Á a1,Ã hno]
   rw [Ã a1]
   by_cases a3:d.To < 0
   ·have hno:¬ kK n d:=by unfold kK; omega
    rw [Á a3,Ã hno]
   rw [Ã a3]
   by_cases a2:d.From ≥ n
   ·have hno:¬ kK n d:=by unfold kK; omega
    rw [Á a2,Ã hno]
   rw [Ã a2]
   by_cases a4:d.To ≥ n
   ·have hno:¬ kK n d:=by unfold kK; omega
    rw [Á a4,Ã hno]
   rw [Ã a4]
   by_cases a5:d.From = d.To
   ·have hno:¬ kK n d:=by unfold kK; omega
    rw [Á a5,Ã hno]
   rw [Ã a5]
   by_cases a6:d.Sum < 1
   ·have hno:¬ kK n d:=by unfold kK; omega
    rw [Á a6,Ã hno]
   rw [Ã a6]
   by_cases a7:d.Sum > 1099511627776
   ·have hno:¬ kK n d:=by unfold kK; omega
    rw [Á a7,Ã hno]
   rw [Ã a7,Á (show kK n d by unfold kK; omega)]
  ·show dY n dues ((min dues.length 101:Nat):Int) = _
   unfold dY
   by_cases h2:dues.length <= 101
   ·rw [Ã (by simp; omega)]
   ·have c0:decide (((min dues.length 101:Nat):Int) < (dues.length:Int)) = true:=by simp; omega
    have c1:¬ decide (((min dues.length 101:Nat):Int) <= 100) = true:=by simp; omega
    rw [Á c0,Ã c1]
 rw [key,À]
 unfold LZ
 by_cases h2:dues.length <= 100
 ·rw [ŀ (by omega),Í h2]
  have d2:decide ((dues.length:Int) <= 100) = true:=by simp; omega
  rw [d2]
  cases wR (fun i=>decide (kK n (el dues i))) dues.length with
  | false=>simp
  | true =>
   rw [Á rfl]
   simp only [ņ,Ò]
   by_cases a1:n ≥ 0
   ·rw [Á a1]
    by_cases a2:n <= 40
    ·rw [Á a2,Í (show 0 <= n ∧ n <= 40 by omega)]; rfl
    ·rw [Ã a2,û (show ¬ (0 <= n ∧ n <= 40) by omega)]; rfl
   ·rw [Ã a1,û (show ¬ (0 <= n ∧ n <= 40) by omega)]; rfl
 ·have d2:decide ((dues.length:Int) <= 100) = false:=by simp; omega
  rw [û h2,d2]
  simp only [Bool.and_false,Bool.false_and]
  cases wR (fun i=>decide (kK n (el dues i))) (min dues.length 101) with
  | false=>rfl
  | true=>rw [Á rfl]; simp only [ņ]; split <;> (try split) <;> rfl
def S5 (x:List Int):Bool:=wR (fun i=>decide (0 <= el x i ∧ el x i <= 1099511627776)) x.length
def OM (x:List Int):Int:=if x.length <= 100 ∧ S5 x = true then eY (el x) x.length else 0
theorem SC {g:Nat->Int} {B:Int} (hB:0 <= B):∀ k,(∀ i,i < k->0 <= g i ∧ g i <= B)->0 <= eY g k ∧ eY g k <= (k:Int) * B
 | 0,_=>by simp [eY]
 | k + 1,h=>by
  have:=SC hB k fun i hi=>h i (by omega)
  have hk:=h k (by omega)
  show 0 <= eY g k + g k ∧ eY g k + g k <= ((k + 1:Nat):Int) * B
  rw [show ((k + 1:Nat):Int) = (k:Int) + 1 by omega,Int.add_mul,Int.one_mul]
  omega
theorem aGC (x:List Int):pH x = some (OM x):=by
 unfold pH OM
 by_cases h2:x.length <= 100
 ·have c3:¬ decide ((x.length:Int) > 100) = true:=by simp; omega
  rw [Ã c3]
  unfold wM
  obtain ⟨z,h1,h3⟩:=bO (step:=fun (w:Int × Int)=>d9 x w.1 w.2) (fun k (a:Int)=>(a,(k:Int))) x.length (fun k a=>a = eY (el x) k ∧ ∀ i,i < k->0 <= el x i ∧ el x i <= 1099511627776)
   (fun z=>(z = .inl (eY (el x) x.length) ∧ S5 x = true) ∨ (z = .inr () ∧ S5 x = false)) (by
    rintro k a hk ⟨rfl,hI⟩
    have hb:=SC (g:=el x) (B:=1099511627776) (by omega) k hI
    have c0:decide ((k:Int) < (x.length:Int)) = true:=by simpa using hk
    have w3:=aO (n:=k) (by omega)
    by_cases hx:0 <= el x k ∧ el x k <= 1099511627776
    ·refine .inl ⟨eY (el x) (k + 1),?_,rfl,fun i hi=>?_⟩
     ·show d9 x (eY (el x) k) k = _
      unfold d9
      have hk2:(k:Int) * 1099511627776 <= 100 * 1099511627776:=by omega
      have d1:¬ decide (el x k < 0) = true:=by simp; omega
      have d2:¬ decide (el x k > 1099511627776) = true:=by simp; omega
      rw [Á c0,bA x k hk,À,Ã d1,Ã d2,gL (by omega) (by omega),w3]
      rfl
     ·by_cases e:i = k
      ·subst e; exact hx
      ·exact hI i (by omega)
    ·refine .inr ⟨.inr (),?_,.inr ⟨rfl,?_⟩⟩
     ·show d9 x (eY (el x) k) k = _
      unfold d9
      rw [Á c0,bA x k hk,À]
      by_cases d1:el x k < 0
      ·rw [Á (Í d1)]
      ·have d2:decide (el x k > 1099511627776) = true:=by simp; omega
       rw [Ã (by simpa using d1),Á d2]
     ·rw [← ŏ,S5,iT]
      exact fun q=>hx (Ü (q k hk))) (by
    rintro a ⟨rfl,hI⟩
    refine ⟨.inl (eY (el x) x.length),?_,.inl ⟨rfl,iT.2 fun i hi=>Í (hI i hi)⟩⟩
    show d9 x _ x.length = _
    unfold d9
    rw [Ã (by simp)]) 0 ⟨rfl,fun i hi=>absurd hi (í _)⟩
  rw [show ((0:Nat):Int) = 0 from rfl] at h1
  rw [h1,À]
  rcases h3 with ⟨rfl,h⟩ | ⟨rfl,h⟩
  ·rw [Á ⟨h2,h⟩]; rfl
  ·rw [Ã (by rw [h]; simp)]; rfl
 ·have c3:decide ((x.length:Int) > 100) = true:=by simp; omega
  rw [Á c3,Ã (fun q=>h2 q.1)]
theorem aKM (x:List Int):mH x = some (OM x):=by
 unfold mH OM
 unfold pX
 obtain ⟨z,h1,h3⟩:=bO (step:=fun (w:Int × Int)=>bH x w.1 w.2) (fun k (a:Int)=>(a,(k:Int))) x.length (fun k a=>a = eY (el x) k ∧ (∀ i,i < k->0 <= el x i ∧ el x i <= 1099511627776) ∧ (0 < k->x.length <= 100))
  (fun z=>(z = .inl (eY (el x) x.length) ∧ S5 x = true ∧ x.length <= 100) ∨ (z = .inr () ∧ ¬ (x.length <= 100 ∧ S5 x = true))) (by
   rintro k a hk ⟨rfl,hI,hk1⟩
   have hb:=SC (g:=el x) (B:=1099511627776) (by omega) k hI
   have c0:decide ((k:Int) < (x.length:Int)) = true:=by simpa using hk
   by_cases hx:0 <= el x k ∧ el x k <= 1099511627776
   ·have d1:¬ decide (el x k < 0) = true:=by simp; omega
    have d2:¬ decide (el x k > 1099511627776) = true:=by simp; omega
    by_cases h2:x.length <= 100
    ·have w3:=aO (n:=k) (by omega)
     refine .inl ⟨eY (el x) (k + 1),?_,rfl,fun i hi=>?_,fun _=>h2⟩
     ·show bH x (eY (el x) k) k = _
      unfold bH
      have hk2:(k:Int) * 1099511627776 <= 100 * 1099511627776:=by omega
      have d3:¬ decide ((x.length:Int) > 100) = true:=by simp; omega
      simp only [Á c0,bA x k hk,À,Ã d1,Ã d2,Ã d3,w3]
      rw [gL (by omega) (by omega)]
      rfl
     ·by_cases e:i = k
      ·subst e; exact hx
      ·exact hI i (by omega)
    ·refine .inr ⟨.inr (),?_,.inr ⟨rfl,fun q=>h2 q.1⟩⟩
     show bH x (eY (el x) k) k = _
     unfold bH
     have d3:decide ((x.length:Int) > 100) = true:=by simp; omega
     simp only [Á c0,bA x k hk,À,Ã d1,Ã d2,Á d3]
   ·refine .inr ⟨.inr (),?_,.inr ⟨rfl,?_⟩⟩
    ·show bH x (eY (el x) k) k = _
     unfold bH
     rw [Á c0,bA x k hk,À]
     by_cases d1:el x k < 0
     ·rw [Á (Í d1)]
     ·have d2:decide (el x k > 1099511627776) = true:=by simp; omega
      rw [Ã (by simpa using d1),À,Á d2]
    ·rintro ⟨_,q⟩
     rw [S5,iT] at q
     exact hx (Ü (q k hk))) (by
   rintro a ⟨rfl,hI,hk1⟩
   refine ⟨.inl (eY (el x) x.length),?_,.inl ⟨rfl,iT.2 fun i hi=>Í (hI i hi),?_⟩⟩
   ·show bH x _ x.length = _
    unfold bH
    rw [Ã (by simp)]
   ·by_cases e:0 < x.length
    ·exact hk1 e
    ·omega) 0 ⟨rfl,fun i hi=>absurd hi (í _),fun q=>absurd q (Nat.lt_irrefl _)⟩
 rw [show ((0:Nat):Int) = 0 from rfl] at h1
 rw [h1,À]
 rcases h3 with ⟨rfl,h,h2⟩ | ⟨rfl,h⟩
 ·rw [Á ⟨h2,h⟩]; rfl
 ·rw [Ã h]; rfl
end
section
open Go.RowKit Vm
section
variable {n:Nat} {dues:List aI} {x q:List Int}
structure aVl (n:Nat) (dues:List aI) (x q:List Int):Prop where
 len:x.length = dues.length
 lenQ:q.length = n
 bald:oG (iH dues) (i7 dues) (jN dues) n dues.length (el x)
 rng:∀ v,v < n->-40 <= el q v ∧ el q v <= 40
 cert:iP (iH dues) (i7 dues) (jN dues) dues.length (el x) (el q)
end
end
end Go.Proofs.Ytgjcnbgfaimepaa
