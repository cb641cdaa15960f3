/- Clearing: balancing ends balanced, and best. Clearing: the potentials are the least costs of steps. Clearing: raising one due. Clearing: what Clear returns. Clearing: what Right, Total, Balanced and Proves say. Clearing: what Balanced and Proves say. -/
import Derived.Test.YtgjcnbgfaimepaaPCa
set_option linter.unusedVariables false
set_option linter.unusedSimpArgs false
namespace Go.Proofs.Ytgjcnbgfaimepaa
open Go.RowKit Vm
section
variable {n:Nat} {dues:List aH} {sums:List Int}
def aBr (n:Nat) (dues:List aH) (x:Nat->Int):Int:=dO (fun v=>if 0 < netF (n9 dues) (qQ dues) dues.length x v then netF (n9 dues) (qQ dues) dues.length x v else 0) n
theorem XQ (x:Nat->Int):0 <= aBr n dues x:=PJ fun v _=>by split <;> omega
theorem aFi {x y:Nat->Int} {u v:Nat} {d:Int} (hu:u < n) (hd:0 < d) (h1:d <= netF (n9 dues) (qQ dues) dues.length x u) (h2:d <= -netF (n9 dues) (qQ dues) dues.length x v)
  (h:∀ z,netF (n9 dues) (qQ dues) dues.length y z = netF (n9 dues) (qQ dues) dues.length x z + (if v = z then d else 0) - (if u = z then d else 0)):aBr n dues y = aBr n dues x - d:=by
 have hne:¬ v = u:=fun e=>by subst e; omega
 unfold aBr
 rw [iD (h:=fun z=>(if 0 < netF (n9 dues) (qQ dues) dues.length x z then netF (n9 dues) (qQ dues) dues.length x z else 0) - (if z = u then d else 0)) fun z _=>?_,AS,M7 hu]
 rw [h z]
 by_cases e1:z = u
 ·subst e1
  rw [if_neg hne,if_pos rfl]
  split <;> split <;> omega
 ·rw [if_neg (fun q:u = z=>e1 q.symm),if_neg e1]
  by_cases e2:v = z
  ·subst e2
   rw [if_pos rfl]
   split <;> split <;> omega
  ·rw [if_neg e2]
   simp
theorem aD2 {l:List aC} {k:Nat} (hk:k < l.length):(el (l.map aW) k).most = (el l k).most:=by rw [gK aW l k hk]; rfl
theorem aKa (h:EM n dues) (x:Nat->Int):∀ g ∈ iJ dues x dues.length,0 <= g.due ∧ g.due < (dues.length:Nat):=by
 intro g hg
 obtain ⟨i,b,hi,rfl,_⟩:=xM.1 hg
 simp only [GT]
 omega
theorem XB (h:EM n dues) {too x:List Int} (hto:too = RV n dues (el x)) (hl:x.length = dues.length) (hr:InR (tZ dues) dues.length (el x)) {p:Nat->Int} (hp:t8 (n9 dues) (qQ dues) (tZ dues) dues.length (el x) p) :
  (∃ too' x',cZ n dues too x = some (.inl (too',x')) ∧ too' = RV n dues (el x') ∧ x'.length = dues.length ∧ InR (tZ dues) dues.length (el x') ∧ (∃ p',t8 (n9 dues) (qQ dues) (tZ dues) dues.length (el x') p') ∧ (aBr n dues (el x')).toNat < (aBr n dues (el x)).toNat) ∨
  (cZ n dues too x = some (.inr x) ∧ vW (n9 dues) (qQ dues) (tZ dues) n dues.length (el x)):=by
 have S:=QZ h (el x)
 have hpot:=(MR S p).1 hp
 have hlen:=h.len
 have hnn:=h.nn
 have hst:=VR h hl hr
 have hok:=SH h (el x)
 have hll:=BE dues (el x) dues.length
 have htl:too.length = n:=by rw [hto,R0]
 have hte:∀ v,v < n->el too v = netF (n9 dues) (qQ dues) dues.length (el x) v:=fun v hv=>by rw [hto,WP _ hv]
 have hdue:=aKa h (el x)
 generalize iJ dues (el x) dues.length = l at *
 obtain ⟨best,last,q1,q2,q3,T⟩:=aEE (n:=n) (by omega) hok (by omega) htl hpot
 obtain ⟨e,r1,r2⟩:=aTa (sums:=x) (dues:=dues) (by omega:n <= 1000) htl q2 last l
 rcases r2 with ⟨rfl,r2⟩ | ⟨v,rfl,hv,hv1,hv2⟩
 ·refine .inr ⟨?_,?_⟩
  ·unfold cZ
   rw [hst,Option.bind_some,q1,Option.bind_some,r1,Option.bind_some,if_pos (by decide)]
  ·refine YM (F:=fun v=>(el best v).fine) (q:=fun v=>(el best v).c) (μ:=fun v=>(el best v).k.toNat) (last:=last) S h.fr h.tt hr ⟨fun w hw hF=>?_,T.closed,fun w hw hR=>T.root w hw ?_⟩ fun w hw hneg=>r2 w hw (by rw [hte w hw]; exact hneg)
   ·rcases T.tree w hw hF with ⟨t1,t2⟩ | t
    ·exact .inl ⟨t1,by have:=of_decide_eq_true t2; rw [hte w hw] at this; exact this⟩
    ·exact .inr t
   ·rw [hte w hw]; exact decide_eq_true hR
 ·obtain ⟨ks,u,w,hu,hRu,hFu,hk⟩:=T.path _ v (Nat.lt_succ_self _) hv hv2
  have hu1:=of_decide_eq_true hRu
  have hkl:∀ k ∈ ks,k < l.length:=fun k hks=>by have:=(hk k hks).1; rwa [List.length_map] at this
  obtain ⟨_,hnd⟩:=w.dues S (μ:=fun v=>(el best v).k.toNat) fun k hks=>⟨(hk k hks).1,(hk k hks).2.2.2.1⟩
  have hksl:ks.length <= 100:=by
   have:=P6 dues.length _ hnd (fun z hz=>by
    obtain ⟨k,hks,rfl⟩:=List.mem_map.1 hz
    rw [gK aW l k (hkl k hks)]
    have:=hdue (el l k) (by rw [show el l k = l[k]'(hkl k hks) from by simp [el,hkl k hks]]; exact List.getElem_mem _)
    show (el l k).due.toNat < _
    omega)
   rw [List.length_map] at this
   omega
  have hpos:∀ k ∈ ks,0 < (el l k).most:=fun k hks=>by
   obtain ⟨i,b,_,_,hm,e⟩:=S.sound k (hk k hks).1
   rw [← aD2 (hkl k hks),e]; exact hm
  have hbnd:∀ z,z < n->-(100 * 1099511627776) <= el too z ∧ el too z <= 100 * 1099511627776:=fun z hz=>by
   rw [hte z hz]
   have:=KO (fr:=n9 dues) (tt:=qQ dues) (x:=el x) (S:=1099511627776) (by omega) dues.length (fun i hi=>by have:=hr i hi; have:=h.each i hi; unfold tZ at *; omega) z
   have:(dues.length:Int) * 1099511627776 <= 100 * 1099511627776:=by omega
   omega
  have bv:=hbnd v hv
  have bu:=hbnd u hu
  have hneg0:IntKind.wrap .i64 (0 - el too v) = -el too v:=by rw [lL (by omega) (by omega)]; omega
  have hmm:=XF l ks (-el too v)
  have hmp:=SM l ks (-el too v) (by omega) hpos
  have w1:=aGX hok q3 n dues too x (best.map lY) v w hv (-el too v)
  generalize hmv:RT l (-el too v) ks = mm at *
  have hd:0 < (if el too u < mm then el too u else mm) ∧ (if el too u < mm then el too u else mm) <= mm ∧ (if el too u < mm then el too u else mm) <= el too u:=by split <;> omega
  have w2:=aFe hok q3 (m:=dues.length) hdue n dues too (best.map lY) v (mm,(u:Int)) (el too u) (D:=100 * 1099511627776) (by omega) (by omega) w hv x 1099511627776 hl (fun i=>by
   by_cases hi:i < dues.length
   ·have:=hr i hi; have:=h.each i hi; unfold tZ at *; omega
   ·rw [show el x i = 0 by simp [el,show ¬ i < x.length by omega]]; omega) (by
   have:(ks.length:Int) * (100 * 1099511627776) <= 100 * (100 * 1099511627776):=Int.mul_le_mul_of_nonneg_right (by omega) (by omega)
   omega)
  dsimp only at w2
  generalize hde:(if el too u < mm then el too u else mm) = d at *
  obtain ⟨m1,m2,m3,m4⟩:=WK hl S h.fr h.tt hr hp (F:=fun v=>(el best v).fine) T w (fun k hks=>⟨(hk k hks).1,(hk k hks).2.1,(hk k hks).2.2.1,(hk k hks).2.2.2.1,(hk k hks).2.2.2.2.2⟩) (d:=d) (by omega) (fun k hks=>by rw [aD2 (hkl k hks)]; have:=hmm.2 k hks; omega)
  have hne:¬ v = u:=fun e=>by subst e; omega
  refine .inl ⟨RV n dues (el (CV (l.map aW) d x ks)),CV (l.map aW) d x ks,?_,rfl,m1,m2,m3,?_⟩
  ·unfold cZ
   have cn:¬ decide ((v:Int) < 0) = true:=by simp
   have cv:0 <= (v:Int) ∧ (v:Int).toNat < too.length:=⟨by omega,by rw [Int.toNat_natCast]; omega⟩
   have cu:0 <= (u:Int) ∧ (u:Int).toNat < too.length:=⟨by omega,by rw [Int.toNat_natCast]; omega⟩
   have ev:too[(v:Int).toNat]? = some (el too v):=by rw [Int.toNat_natCast]; exact EG too v (by omega)
   have eu:too[(u:Int).toNat]? = some (el too u):=by rw [Int.toNat_natCast]; exact EG too u (by omega)
   have wu:IntKind.wrap .i64 (el too u - d) = el too u - d:=lL (by omega) (by omega)
   have wv:IntKind.wrap .i64 (el too v + d) = el too v + d:=lL (by omega) (by omega)
   have cv2:0 <= (v:Int) ∧ (v:Int).toNat < (too.set (u:Int).toNat (el too u - d)).length:=⟨by omega,by rw [List.length_set,Int.toNat_natCast]; omega⟩
   have ev2:(too.set (u:Int).toNat (el too u - d))[(v:Int).toNat]? = some (el too v):=by
    rw [Int.toNat_natCast,Int.toNat_natCast,EG _ _ (by rw [List.length_set]; omega),dM,if_neg fun q=>hne q.1]
   simp only [hst,q1,r1,Option.bind_some,if_neg cn,if_pos cv,ev,hneg0,w1,if_pos cu,eu,hde,w2,wu,if_pos cv2,ev2,wv]
   congr 3
   refine EI (by rw [List.length_set,List.length_set,htl,R0]) fun z hz=>?_
   rw [List.length_set,List.length_set,htl] at hz
   rw [WP _ hz,m4 z,dM,dM,Int.toNat_natCast,Int.toNat_natCast,List.length_set,htl,← hte z hz]
   by_cases e1:z = v
   ·subst e1
    have hzu:¬ u = z:=fun q=>hne q.symm
    rw [if_pos ⟨rfl,hz⟩,if_pos rfl,if_neg hzu]; omega
   ·have hvz:¬ v = z:=fun q=>e1 q.symm
    have hc1:¬ (z = v ∧ v < n):=fun q=>e1 q.1
    by_cases e2:z = u
    ·subst e2
     rw [if_neg hc1,if_neg hvz,if_pos ⟨rfl,hz⟩,if_pos rfl]; omega
    ·have huz:¬ u = z:=fun q=>e2 q.symm
     have hc2:¬ (z = u ∧ u < n):=fun q=>e2 q.1
     rw [if_neg hc1,if_neg hvz,if_neg hc2,if_neg huz]; omega
  ·have h1:=aFi (dues:=dues) (x:=el x) (y:=el (CV (l.map aW) d x ks)) hu (by omega:0 < d) (by rw [← hte u hu]; omega) (by rw [← hte v hv]; omega) m4
   have h2:=XQ (n:=n) (dues:=dues) (el (CV (l.map aW) d x ks))
   omega
theorem aE1 (h:EM n dues) (hl:sums.length = dues.length) (hfull:∀ i,i < dues.length->el sums i = tZ dues i):∃ x,kP n dues sums = some x ∧ x.length = dues.length ∧ vW (n9 dues) (qQ dues) (tZ dues) n dues.length (el x) ∧ ∃ p,t8 (n9 dues) (qQ dues) (tZ dues) dues.length (el x) p:=by
 have hr:InR (tZ dues) dues.length (el sums):=fun i hi=>by have:=h.each i hi; have:=hfull i hi; unfold tZ at *; omega
 have hnn:=h.nn
 have hc:t8 (n9 dues) (qQ dues) (tZ dues) dues.length (el sums) fun _=>0:=fun i hi=>⟨fun c=>by rw [hfull i hi] at c; omega,fun _=>by show (0:Int) <= 0 + 1; omega⟩
 unfold kP
 rw [if_pos (by omega),Int.toNat_natCast,aR1 h hl hr,Option.bind_some]
 unfold nQ
 obtain ⟨x,h1,h2⟩:=I8 (step:=fun (w:List Int × List Int)=>cZ n dues w.1 w.2) (fun w=>w.1 = RV n dues (el w.2) ∧ w.2.length = dues.length ∧ InR (tZ dues) dues.length (el w.2) ∧ ∃ p,t8 (n9 dues) (qQ dues) (tZ dues) dues.length (el w.2) p) (fun w=>(aBr n dues (el w.2)).toNat)
  (fun x=>x.length = dues.length ∧ vW (n9 dues) (qQ dues) (tZ dues) n dues.length (el x) ∧ ∃ p,t8 (n9 dues) (qQ dues) (tZ dues) dues.length (el x) p) (fun w ⟨i1,i2,i3,p,i4⟩=>by
   rcases XB h i1 i2 i3 i4 with ⟨too',x',s1,s2,s3,s4,s5,s6⟩ | ⟨s1,s2⟩
   ·exact .inl ⟨(too',x'),s1,⟨s2,s3,s4,s5⟩,s6⟩
   ·exact .inr ⟨_,s1,i2,s2,p,i4⟩) (RV n dues (el sums),sums) ⟨rfl,hl,hr,_,hc⟩
 rw [h1]
 exact ⟨x,rfl,h2⟩
end
end Go.Proofs.Ytgjcnbgfaimepaa
namespace Go.Proofs.Ytgjcnbgfaimepaa
open Go.RowKit Vm
def nG (a b:Int):Bool:=decide (a < b)
def zW (a:Int) (s:fI):Int:=a + s.cost
def aGy (a c:Int) (k:Nat):Int:=a + c
theorem QB (a b:Int):nG a b = false ↔ b <= a:=by simp [nG]
theorem aUS:aH9 nG zW where
 irr a:=by simp [nG]
 asym a b h:=by simp [nG] at *; omega
 neg a b c h1 h2:=by simp [nG] at *; omega
 mono a b s h:=by simp [nG,zW] at *; omega
theorem aS9 (cst:fI->Int) (hc:∀ s,cst s = s.cost):aGV nG zW cst aGy where
 zero a:=by simp [aGy]
 step a c k s:=by
  rw [hc]
  simp only [aGy,zW]
  omega
 le a c k c' k' h:=by
  unfold HC
  rw [QB]
  simp only [aGy]
  omega
def RM (n:Nat) (B:Int) (best:List Int):Prop:=∀ v,v < n->-B <= el best v ∧ el best v <= B
theorem L6 {n:Nat} {l:List aC} {best:List Int} {last:List Int} {B:Int} (hl:∀ g ∈ l,JW n g) (hb:best.length = n) (hla:last.length = n) (h:RM n B best) (hB:0 <= B):∀ k,k <= l.length ->
  (((List.range k).foldl (gN nG zW fI.src fI.dst (l.map aW)) (best,last,false)).1.length = n ∧ ((List.range k).foldl (gN nG zW fI.src fI.dst (l.map aW)) (best,last,false)).2.1.length = n ∧ RM n (B + k) ((List.range k).foldl (gN nG zW fI.src fI.dst (l.map aW)) (best,last,false)).1):=by
 intro k
 induction k with
 | zero=>intro _; exact ⟨hb,hla,by simpa using h⟩
 | succ k ih =>
  intro hk
  obtain ⟨h1,h2,h3⟩:=ih (by omega)
  rw [List.range_succ,List.foldl_append,List.foldl_cons,List.foldl_nil]
  generalize (List.range k).foldl (gN nG zW fI.src fI.dst (l.map aW)) (best,last,false) = z at *
  have hg:=hl (el l k) (by rw [show el l k = l[k] from by simp [el,show k < l.length by omega]]; exact List.getElem_mem _)
  obtain ⟨⟨g1,g2⟩,⟨g3,g4⟩,g5,g6⟩:=hg
  have hmono:RM n (B + (k + 1:Nat)) z.1:=fun v hv=>by have:=h3 v hv; omega
  unfold gN
  rw [gK aW l k (by omega)]
  split
  ·refine ⟨by simp [h1],by simp [h2],fun v hv=>?_⟩
   dsimp only
   rw [dM]
   split
   ·have:=h3 (el l k).from_.toNat (by omega)
    simp only [zW,aW,fI.src]
    omega
   ·exact hmono v hv
  ·exact ⟨h1,h2,hmono⟩
theorem aGK (a b:Int):qX a b = some (nG a b):=by
 unfold qX oF
 simp [nG]
theorem aBY {n:Nat} {l:List aC} {best:List Int} {last:List Int} {B:Int} (hl:∀ g ∈ l,JW n g) (hb:best.length = n) (hla:last.length = n) (h:RM n B best) (hB:0 <= B) (hBl:B + l.length <= 4611686018427387904) :
  iK l false 0 best last = some ((oH nG zW fI.src fI.dst (l.map aW) best last).2.2,(oH nG zW fI.src fI.dst (l.map aW) best last).1,(oH nG zW fI.src fI.dst (l.map aW) best last).2.1):=by
 unfold iK oH
 rw [List.length_map]
 suffices hh:∃ x,dK (fun (w:Bool × Int × List Int × List Int)=>cR l w.1 w.2.1 w.2.2.1 w.2.2.2) (false,0,best,last) = some x ∧ x = (((List.range l.length).foldl (gN nG zW fI.src fI.dst (l.map aW)) (best,last,false)).2.2,((List.range l.length).foldl (gN nG zW fI.src fI.dst (l.map aW)) (best,last,false)).1,((List.range l.length).foldl (gN nG zW fI.src fI.dst (l.map aW)) (best,last,false)).2.1) by
  obtain ⟨x,h1,h2⟩:=hh
  rw [h2] at h1; exact h1
 refine eQ (step:=fun (w:Bool × Int × List Int × List Int)=>cR l w.1 w.2.1 w.2.2.1 w.2.2.2) (fun k (a:List Int × List Int × Bool)=>(a.2.2,(k:Int),a.1,a.2.1)) l.length
  (fun k a=>a = (List.range k).foldl (gN nG zW fI.src fI.dst (l.map aW)) (best,last,false)) (fun x=>x = (((List.range l.length).foldl (gN nG zW fI.src fI.dst (l.map aW)) (best,last,false)).2.2,((List.range l.length).foldl (gN nG zW fI.src fI.dst (l.map aW)) (best,last,false)).1,((List.range l.length).foldl (gN nG zW fI.src fI.dst (l.map aW)) (best,last,false)).2.1)) ?_ ?_ (best,last,false) rfl
 ·rintro k a hk rfl
  refine .inl ?_
  obtain ⟨q1,q2,q3⟩:=L6 hl hb hla h hB k (by omega)
  rw [List.range_succ,List.foldl_append,List.foldl_cons,List.foldl_nil]
  generalize (List.range k).foldl (gN nG zW fI.src fI.dst (l.map aW)) (best,last,false) = z at *
  have hg:=hl (el l k) (by rw [show el l k = l[k] from by simp [el,hk]]; exact List.getElem_mem _)
  obtain ⟨⟨g1,g2⟩,⟨g3,g4⟩,g5,g6⟩:=hg
  refine ⟨_,?_,rfl⟩
  unfold cR
  have e1:z.1[(el l k).from_.toNat]? = some (el z.1 (el l k).from_.toNat):=EG z.1 _ (by omega)
  have e2:z.1[(el l k).to.toNat]? = some (el z.1 (el l k).to.toNat):=EG z.1 _ (by omega)
  have b:=q3 (el l k).from_.toNat (by omega)
  have c0:decide ((k:Int) < (l.length:Int)) = true:=by simpa using hk
  have ck:0 <= (k:Int) ∧ (k:Int).toNat < l.length:=⟨by omega,by rw [Int.toNat_natCast]; omega⟩
  have ek:l[(k:Int).toNat]? = some (el l k):=by rw [Int.toNat_natCast]; exact EG l k hk
  have cF:0 <= (el l k).from_ ∧ (el l k).from_.toNat < z.1.length:=⟨g1,by omega⟩
  have cT:0 <= (el l k).to ∧ (el l k).to.toNat < z.1.length:=⟨g3,by omega⟩
  have cL:0 <= (el l k).to ∧ (el l k).to.toNat < z.2.1.length:=⟨g3,by omega⟩
  have ho:gI (el z.1 (el l k).from_.toNat) (el l k) = some (zW (el z.1 (el l k).from_.toNat) (aW (el l k))):=by
   unfold gI
   rw [lL (by omega) (by omega)]
   rfl
  have w3:IntKind.wrap .i64 ((k:Int) + 1) = ((k + 1:Nat):Int):=bC (by omega)
  have eL:z.2.1[(el l k).to.toNat]? = some (el z.2.1 (el l k).to.toNat):=EG z.2.1 _ (by omega)
  simp only [if_pos c0,if_pos ck,ek,Option.bind_some,if_pos cF,e1,ho,if_pos cT,e2,aGK,w3,if_pos cL,eL]
  unfold gN
  rw [gK aW l k hk]
  have e3:fI.src (aW (el l k)) = (el l k).from_.toNat:=rfl
  have e4:fI.dst (aW (el l k)) = (el l k).to.toNat:=rfl
  rw [e3,e4]
  split
  ·rfl
  ·rfl
 ·rintro a rfl
  refine ⟨_,?_,rfl⟩
  unfold cR
  rw [if_neg (by simp)]
theorem UD {n:Nat} {l:List aC} (hl:∀ g ∈ l,JW n g):∀ (f:Nat) (best:List Int) (last:List Int) (B:Int) (b:List Int) (la:List Int),best.length = n->last.length = n->RM n B best->0 <= B->B + (f * l.length:Nat) <= 4611686018427387904 ->
  SY nG zW fI.src fI.dst (l.map aW) f best last = some (b,la)->iN l true best last = some (b,la)
 | 0,best,last,B,b,la,_,_,_,_,_,h=>by cases h
 | f + 1,best,last,B,b,la,hb,hla,hB,hB0,hBf,h=>by
  have hmul:(f + 1) * l.length = f * l.length + l.length:=Nat.succ_mul f l.length
  have hr:=aBY hl hb hla hB hB0 (by omega)
  obtain ⟨q1,q2,q3⟩:=L6 hl hb hla hB hB0 l.length (Nat.le_refl _)
  have e0:oH nG zW fI.src fI.dst (l.map aW) best last = (List.range l.length).foldl (gN nG zW fI.src fI.dst (l.map aW)) (best,last,false):=by unfold oH; rw [List.length_map]
  rw [← e0] at q1 q2 q3
  simp only [SY] at h
  generalize oH nG zW fI.src fI.dst (l.map aW) best last = z at *
  unfold iN
  rw [oE (s':=(z.2.2,z.1,z.2.1)) (by unfold e8; rw [if_pos rfl,hr]; rfl)]
  split at h
  ·rename_i hc
   rw [hc]
   exact UD hl f z.1 z.2.1 (B + l.length) b la q1 q2 q3 (by omega) (by omega) h
  ·rename_i hc
   cases h
   exact mE (by unfold e8; exact if_neg hc)
theorem PS.cost_ge {l:List fI} (hc:∀ i,i < l.length->-1 <= (el l i).cost) {u k v:Nat} {c:Int} (w:PS fI.src fI.dst fI.cost l u k c v):-(k:Int) <= c:=by
 induction w with
 | zero=>omega
 | step i hi _ ih=>have:=hc i hi; omega
structure KR (n:Nat) (l:List fI) (q:Nat->Int):Prop where
 le0:∀ v,v < n->q v <= 0
 lo:∀ v,v < n->-(n:Int) + 1 <= q v
 pot:Pot fI.src fI.dst fI.cost l q
 wk:∀ v,v < n->∃ u k,u < n ∧ PS fI.src fI.dst fI.cost l u k (q v) v
 le:∀ u k c v,u < n->PS fI.src fI.dst fI.cost l u k c v->q v <= c
theorem KR.one {n:Nat} {l:List fI} {q q' : Nat->Int} (h:KR n l q) (h' : KR n l q') {v:Nat} (hv:v < n):q v = q' v:=by
 obtain ⟨u,k,hu,w⟩:=h.wk v hv
 obtain ⟨u',k',hu',w'⟩:=h'.wk v hv
 have a:=h.le u' k' _ v hu' w'
 have b:=h'.le u k _ v hu w
 omega
theorem aI4 {n:Nat} {dues:List aH} {x:List Int} (h:EM n dues) (hl:x.length = dues.length) (hr:InR (tZ dues) dues.length (el x)) {p:Nat->Int} (hp:t8 (n9 dues) (qQ dues) (tZ dues) dues.length (el x) p) :
  ∃ q,eY n dues x = some q ∧ q.length = n ∧ KR n ((iJ dues (el x) dues.length).map aW) (el q):=by
 have S:=QZ h (el x)
 have hpot:=(MR S p).1 hp
 have hlen:=h.len
 have hnn:=h.nn
 have hst:=VR h hl hr
 have hok:=SH h (el x)
 have hll:=BE dues (el x) dues.length
 have hs:=S.in_ h.fr h.tt
 generalize iJ dues (el x) dues.length = l at *
 have hi:∀ v,v < n->el (List.replicate n (0:Int)) v = 0:=fun v hv=>lR _ _ _ hv
 obtain ⟨q,la,h1,h2,h3,h4⟩:=aEB aUS (aS9 fI.cost fun _=>rfl) hpot (init:=List.replicate n (0:Int)) (by rw [List.length_replicate]; exact hs) (fuel:=n + 1) (by rw [List.length_replicate]; exact Nat.le_refl _)
 rw [List.length_replicate] at h1 h4
 have hmul:(n + 1) * l.length <= 1001 * 100000:=Nat.mul_le_mul (by omega) (by omega)
 have hq:∀ v,v < n->∃ u k,u < n ∧ PS fI.src fI.dst fI.cost (l.map aW) u k (el q v) v:=by
  intro v hv
  obtain ⟨k,w⟩:=h2.wk v (by rw [List.length_replicate]; exact hv)
  obtain ⟨u,c,hu,hw,e⟩:=aQz (aS9 fI.cost fun _=>rfl) w
  rw [List.length_replicate] at hu
  rw [hi u hu] at e
  have e:el q v = c:=by simpa [aGy] using e
  rw [e]
  exact ⟨u,k,hu,hw⟩
 have hle:∀ u k c v,u < n->PS fI.src fI.dst fI.cost (l.map aW) u k c v->el q v <= c:=by
  intro u k c v hu w
  have:=h4 u k c v hu w
  unfold HC at this
  rw [QB,hi u hu] at this
  simpa [aGy] using this
 refine ⟨q,?_,by rw [h2.len,List.length_replicate],⟨fun v hv=>hle v 0 0 v hv .zero,fun v hv=>?_,fun i hi'=>?_,hq,hle⟩⟩
 ·unfold eY
  rw [if_pos (by omega),hst,Option.bind_some,Int.toNat_natCast,List.length_replicate,aQj (by omega),Option.bind_some,UD hok (n + 1) _ _ 0 q la List.length_replicate List.length_replicate (fun v hv=>by rw [hi v hv]; omega) (Int.le_refl _) (by omega) h1]
  rfl
 ·obtain ⟨u,k,hu,w⟩:=hq v hv
  obtain ⟨j,c',hj,w',hc⟩:=w.short hpot hs hu
  have:=hle u j c' v hu w'
  have hge:=w'.cost_ge fun i hi'=>by
   rw [List.length_map] at hi'
   rw [gK aW l i hi']
   exact (hok (el l i) (by rw [show el l i = l[i] from by simp [el,hi']]; exact List.getElem_mem _)).2.2.1
  omega
 ·have:=h3 i hi'
  unfold HC at this
  rw [QB] at this
  exact this
end Go.Proofs.Ytgjcnbgfaimepaa
namespace Go.Proofs.Ytgjcnbgfaimepaa
open Go.RowKit Vm
theorem aMy {α:Type} [Inhabited α] (l:List α) {k:Nat} (h:k < l.length):l.take (k + 1) = l.take k ++ [el l k]:=by
 rw [List.take_add_one,EG l k h]; rfl
def DC (p:List Int) (i:Nat) (g:aC):Bool:=decide ((i:Int) < g.due) && decide (el p g.to.toNat = el p g.from_.toNat + g.cost)
def zcG (g:aC):aC:=aC.mk g.due g.from_ g.to 0 g.most g.back
section
variable {n:Nat} {dues:List aH} {p:List Int} {l:List aC}
theorem aMu (hl:∀ g ∈ l,JW n g) (hll:l.length <= 100000) (hp:p.length = n) (hpb:∀ v,v < n->-1000 <= el p v ∧ el p v <= 1000) (i:Nat) (x:List Int):mK n dues p i x l 0 [] = some (l.filter (DC p i)):=by
 unfold mK
 suffices hh:∃ y,dK (fun (w:Int × List aC)=>c7 n dues p i x l w.1 w.2) (0,[]) = some y ∧ y = l.filter (DC p i) by
  obtain ⟨y,h1,h2⟩:=hh
  rw [h2] at h1; exact h1
 refine eQ (step:=fun (w:Int × List aC)=>c7 n dues p i x l w.1 w.2) (fun k (a:List aC)=>((k:Int),a)) l.length (fun k a=>a = (l.take k).filter (DC p i)) _ ?_ ?_ _ (by simp)
 ·rintro k a hk rfl
  refine .inl ⟨_,?_,rfl⟩
  have hlen:((l.take k).filter (DC p i)).length <= 100000:=Nat.le_trans (List.length_filter_le _ _) (by rw [List.length_take]; omega)
  obtain ⟨⟨g1,g2⟩,⟨g3,g4⟩,g5,g6⟩:=hl _ (mF _ _ hk)
  rw [aMy l hk,List.filter_append]
  generalize (l.take k).filter (DC p i) = a at *
  show c7 n dues p i x l k a = _
  unfold c7
  have c0:decide ((k:Int) < (l.length:Int)) = true:=by simpa using hk
  have ck:0 <= (k:Int) ∧ (k:Int).toNat < l.length:=⟨by omega,by rw [Int.toNat_natCast]; omega⟩
  have ek:l[(k:Int).toNat]? = some (el l k):=by rw [Int.toNat_natCast]; exact EG l k hk
  have w3:IntKind.wrap .i64 ((k:Int) + 1) = ((k + 1:Nat):Int):=bC (by omega)
  have eT:at? p (el l k).to = some (el p (el l k).to.toNat):=by
   have:=bU p (el l k).to.toNat (by omega)
   rwa [Int.toNat_of_nonneg g3] at this
  have eF:at? p (el l k).from_ = some (el p (el l k).from_.toNat):=by
   have:=bU p (el l k).from_.toNat (by omega)
   rwa [Int.toNat_of_nonneg g1] at this
  have bT:=hpb (el l k).to.toNat (by omega)
  have bF:=hpb (el l k).from_.toNat (by omega)
  have wF:IntKind.wrap .i64 (el p (el l k).from_.toNat + (el l k).cost) = el p (el l k).from_.toNat + (el l k).cost:=lL (by omega) (by omega)
  have cL:(a.length + 1) * 48 <= 140737488355328:=by omega
  simp only [if_pos c0,if_pos ck,ek,Option.bind_some,eT,eF,wF,w3,if_pos cL]
  by_cases h1:(i:Int) < (el l k).due
  ·have d1:decide ((el l k).due > (i:Int)) = true:=by simpa using h1
   by_cases h2:el p (el l k).to.toNat = el p (el l k).from_.toNat + (el l k).cost
   ·have d2:(el p (el l k).to.toNat == el p (el l k).from_.toNat + (el l k).cost) = true:=by simpa using h2
    have ht:DC p i (el l k) = true:=by unfold DC; rw [decide_eq_true h1,decide_eq_true h2]; rfl
    rw [if_pos d1,if_pos d2,List.filter_cons_of_pos ht]
    rfl
   ·have d2:¬ (el p (el l k).to.toNat == el p (el l k).from_.toNat + (el l k).cost) = true:=by simpa using h2
    have ht:¬ DC p i (el l k) = true:=by unfold DC; rw [decide_eq_false h2]; simp
    rw [if_pos d1,if_neg d2,List.filter_cons_of_neg ht,List.filter_nil,List.append_nil]
  ·have d1:¬ decide ((el l k).due > (i:Int)) = true:=by simpa using h1
   have ht:¬ DC p i (el l k) = true:=by unfold DC; rw [decide_eq_false h1]; simp
   rw [if_neg d1,List.filter_cons_of_neg ht,List.filter_nil,List.append_nil]
 ·rintro a rfl
  rw [List.take_length]
  refine ⟨_,?_,rfl⟩
  show c7 n dues p i x l l.length _ = _
  unfold c7
  rw [if_neg (by simp)]
theorem aQZ (hll:l.length <= 100000) (i:Int) (x:List Int) (d:aH):lZ n dues p i x l d 0 l = some (l.map zcG):=by
 unfold lZ
 suffices hh:∃ y,dK (fun (w:Int × List aC)=>c9 n dues p i x l d w.1 w.2) (0,l) = some y ∧ y = l.map zcG by
  obtain ⟨y,h1,h2⟩:=hh
  rw [h2] at h1; exact h1
 refine eQ (step:=fun (w:Int × List aC)=>c9 n dues p i x l d w.1 w.2) (fun k (a:List aC)=>((k:Int),a)) l.length (fun k a=>a.length = l.length ∧ ∀ j,j < l.length->el a j = if j < k then zcG (el l j) else el l j) _ ?_ ?_ _ ⟨rfl,fun j hj=>by rw [if_neg (Nat.not_lt_zero _)]⟩
 ·rintro k a hk ⟨h1,h2⟩
  refine .inl ⟨a.set k (zcG (el l k)),?_,by simp [h1],fun j hj=>?_⟩
  ·show c9 n dues p i x l d k a = _
   unfold c9
   have c0:decide ((k:Int) < (l.length:Int)) = true:=by simpa using hk
   have ck:0 <= (k:Int) ∧ (k:Int).toNat < a.length:=⟨by omega,by rw [Int.toNat_natCast]; omega⟩
   have ek:a[(k:Int).toNat]? = some (el l k):=by rw [Int.toNat_natCast,EG a k (by omega),h2 k hk,if_neg (Nat.lt_irrefl _)]
   have w3:IntKind.wrap .i64 ((k:Int) + 1) = ((k + 1:Nat):Int):=bC (by omega)
   simp only [if_pos c0,if_pos ck,ek,Option.bind_some,w3]
   rfl
  ·rw [dM,h2 j hj]
   by_cases e:j = k
   ·subst e
    rw [if_pos ⟨rfl,by omega⟩,if_pos (Nat.lt_succ_self _)]
   ·rw [if_neg fun q=>e q.1]
    by_cases c:j < k
    ·rw [if_pos c,if_pos (by omega)]
    ·rw [if_neg c,if_neg (by omega)]
 ·rintro a ⟨h1,h2⟩
  refine ⟨a,?_,?_⟩
  ·show c9 n dues p i x l d l.length a = _
   unfold c9
   rw [if_neg (by simp)]
  ·refine EI (by rw [h1,List.length_map]) fun j hj=>?_
   rw [h1] at hj
   rw [h2 j hj,if_pos hj,gK zcG l j hj]
theorem aAg {e:aC} {fr tt:Nat->Nat} {s x:Nat->Int} {cc:Bool->Int} {i:Nat} {b:Bool} (h:aW e = H4 fr tt s x cc i b):aW (zcG e) = H4 fr tt s x (fun _=>0) i b:=by
 have h1:e.due = i:=congrArg fI.due h
 have h2:=congrArg fI.sf h
 have h3:=congrArg fI.st h
 have h4:=congrArg fI.most h
 have h5:=congrArg fI.back h
 simp only [aW,H4] at h2 h3 h4 h5
 simp only [aW,H4,zcG,h1,h2,h3,h4,h5]
theorem aH1 (h:EM n dues) (x:Nat->Int) (p:List Int) (i:Nat):pR (n9 dues) (qQ dues) (tZ dues) dues.length x (XV (n9 dues) (qQ dues) (el p) i) (fun _=>0) ((((iJ dues x dues.length).filter (DC p i)).map zcG).map aW):=by
 have ht:∀ j b,j < dues.length->(DC p i (GT dues x j b) = true ↔ XV (n9 dues) (qQ dues) (el p) i j b):=by
  intro j b hj
  unfold DC XV n9 qQ XH
  rw [Bool.and_eq_true,decide_eq_true_eq,decide_eq_true_eq]
  cases b <;> simp [GT]
 constructor
 ·intro k hk
  rw [List.length_map,List.length_map] at hk
  rw [gK aW _ k (by rw [List.length_map]; exact hk),gK zcG _ k hk]
  have hm:=mF _ _ hk
  rw [List.mem_filter] at hm
  obtain ⟨hm1,hm2⟩:=hm
  obtain ⟨j,b,hj,e,hm⟩:=xM.1 hm1
  rw [e] at hm2 ⊢
  refine ⟨j,b,hj,(ht j b hj).1 hm2,?_,aAg (sF h hj b)⟩
  have e2:(H4 (n9 dues) (qQ dues) (tZ dues) x (fun _=>0) j b).most = (aW (GT dues x j b)).most:=by rw [sF h hj]; rfl
  rw [e2]; exact hm
 ·intro j b hj hT hm
  have e2:(H4 (n9 dues) (qQ dues) (tZ dues) x (fun _=>0) j b).most = (aW (GT dues x j b)).most:=by rw [sF h hj]; rfl
  rw [e2] at hm
  have h1:=(xM (dues:=dues) (x:=x) (m:=dues.length)).2 ⟨j,b,hj,rfl,hm⟩
  have h2:=List.mem_filter.2 ⟨h1,(ht j b hj).2 hT⟩
  obtain ⟨k,hk,e⟩:=IV h2
  refine ⟨k,by rw [List.length_map,List.length_map]; exact hk,?_⟩
  rw [gK aW _ k (by rw [List.length_map]; exact hk),gK zcG _ k hk,e]
  exact aAg (sF h hj b)
theorem aAT (hl:∀ g ∈ l,JW n g) {last:List Int} (hla:last.length = n) {m:Nat} (hdue:∀ g ∈ l,0 <= g.due ∧ g.due < m) (a0:Int) (a1:List aH) (a3:List Int) (a4:Int) (best:List aD) {d D:Int} (hd0:0 <= d) (hdD:d <= D) {v u:Nat} {ks:List Nat} (w:Pth (l.map aW) last v ks u):v < n->∀ (x:List Int) (B:Int),x.length = m->(∀ i,-B <= el x i ∧ el x i <= B)->B + (ks.length:Int) * D <= 4611686018427387904 ->
  iH a0 a1 a3 a4 l (best,last) d v x = some (CV (l.map aW) d x ks):=by
 induction w with
 | nil v hv =>
  intro hvn x B hxm hx hB
  unfold iH
  refine mE ?_
  show e7 a0 a1 a3 a4 l (best,last) d v x = _
  unfold e7
  dsimp only
  rw [if_pos ⟨by omega,by rw [Int.toNat_natCast]; omega⟩,Int.toNat_natCast,EG last v (by omega),hv]
  rfl
 | @cons v k u ks hk hlv hd w ih =>
  intro hvn x B hxm hx hB
  rw [List.length_map] at hk
  obtain ⟨q1,q2⟩:=VJ hl hk
  obtain ⟨b1,b2⟩:=I7 (l:=l) (last:=last) (by omega:v < last.length) hlv hk
  have hg:=hdue (el l k) (mF _ _ hk)
  have hD0:0 <= D:=by omega
  have hks:((k :: ks).length:Int) * D = (ks.length:Int) * D + D:=by
   rw [List.length_cons]; rw [show ((ks.length + 1:Nat):Int) = (ks.length:Int) + 1 by omega,Int.add_mul,Int.one_mul]
  have hpos:0 <= (ks.length:Int) * D:=Int.mul_nonneg (by omega) hD0
  have hmv:=aK4 (g:=el l k) (x:=x) (B:=B) hg.1 (by omega) hx hd0 hdD (by omega)
  unfold iH
  rw [oE (s':=((el l k).from_,x.set (el l k).due.toNat (el x (el l k).due.toNat + YB (aW (el l k)) d))) ?_]
  ·have hsg:-D <= YB (aW (el l k)) d ∧ YB (aW (el l k)) d <= D:=by unfold YB; split <;> omega
   have hxd:=hx (el l k).due.toNat
   have:=ih q1 (x.set (el l k).due.toNat (el x (el l k).due.toNat + YB (aW (el l k)) d)) (B + D) (by rw [List.length_set]; exact hxm) (UB hx (by omega) (by omega) hD0) (by omega)
   unfold iH at this
   rw [q2,this,CV,gK aW l k hk]
   rfl
  ·show e7 a0 a1 a3 a4 l (best,last) d v x = _
   unfold e7
   dsimp only
   have cv:0 <= (v:Int) ∧ (v:Int).toNat < last.length:=⟨by omega,by rw [Int.toNat_natCast]; omega⟩
   have ck:0 <= (k:Int) ∧ (k:Int).toNat < l.length:=⟨by omega,by rw [Int.toNat_natCast]; exact hk⟩
   have cg:decide ((k:Int) ≥ 0) = true:=by simp
   simp only [if_pos cv,if_pos ck,b1,b2,Option.bind_some,if_pos cg,hmv]
end
end Go.Proofs.Ytgjcnbgfaimepaa
namespace Go.Proofs.Ytgjcnbgfaimepaa
open Go.RowKit Vm
section
variable {n:Nat} {dues:List aH} {p:List Int}
theorem aCF (h:EM n dues) (hp:p.length = n) (hpb:∀ v,v < n->-1000 <= el p v ∧ el p v <= 1000) {i:Nat} (hi:i < dues.length) {x:List Int} (hl:x.length = dues.length) (hB:vW (n9 dues) (qQ dues) (tZ dues) n dues.length (el x)) (hc:t8 (n9 dues) (qQ dues) (tZ dues) dues.length (el x) (el p)) (hpi:el p (qQ dues i) = el p (n9 dues i) - 1) :
  (∃ x',cP n dues p i x = some (.inl x') ∧ x'.length = dues.length ∧ vW (n9 dues) (qQ dues) (tZ dues) n dues.length (el x') ∧ t8 (n9 dues) (qQ dues) (tZ dues) dues.length (el x') (el p) ∧ (∀ j,j < i->el x' j = el x j) ∧ (el (dues.map (·.Sum)) i - el x' i).toNat < (el (dues.map (·.Sum)) i - el x i).toNat) ∨
  ((cP n dues p i x = some (.inr (.inl x)) ∨ cP n dues p i x = some (.inr (.inr x))) ∧ CD (n9 dues) (qQ dues) (tZ dues) n dues.length (el x) i):=by
 have hr:InR (tZ dues) dues.length (el x):=fun j hj=>⟨hB.lo j hj,hB.hi j hj⟩
 have hst:=VR h hl hr
 have hok:=SH h (el x)
 have hll:=BE dues (el x) dues.length
 have hlen:=h.len
 have hnn:=h.nn
 have hdi:=h.each i hi
 have hxi:=hr i hi
 have S:=aH1 h (el x) p i
 have hdue:=aKa h (el x)
 have c4:0 <= (i:Int) ∧ (i:Int).toNat < x.length:=⟨by omega,by rw [Int.toNat_natCast]; omega⟩
 have e4:x[(i:Int).toNat]? = some (el x i):=by rw [Int.toNat_natCast]; exact EG x i (by omega)
 have eD:=bU dues i hi
 by_cases hfull:el x i < tZ dues i
 ·have hfull' : decide (el x i < (el dues i).Sum) = true:=by simpa [tZ] using hfull
  have hti:=aMu (dues:=dues) hok (by omega) hp hpb i x
  have hl1:∀ g ∈ ((iJ dues (el x) dues.length).filter (DC p i)).map zcG,JW n g:=by
   intro g hg
   obtain ⟨g',hg',rfl⟩:=List.mem_map.1 hg
   have:=hok g' (List.mem_filter.1 hg').1
   exact ⟨this.1,this.2.1,by simp [zcG]⟩
  have hl2:∀ g ∈ ((iJ dues (el x) dues.length).filter (DC p i)).map zcG,0 <= g.due ∧ g.due < (dues.length:Nat):=by
   intro g hg
   obtain ⟨g',hg',rfl⟩:=List.mem_map.1 hg
   exact hdue g' (List.mem_filter.1 hg').1
  have hfl:((iJ dues (el x) dues.length).filter (DC p i)).length <= 200:=Nat.le_trans (List.length_filter_le _ _) (by omega)
  have hz:=aQZ (n:=n) (dues:=dues) (p:=p) (l:=(iJ dues (el x) dues.length).filter (DC p i)) (by omega) i x (el dues i)
  have hl3:(((iJ dues (el x) dues.length).filter (DC p i)).map zcG).length <= 200:=by rw [List.length_map]; exact hfl
  generalize (iJ dues (el x) dues.length).filter (DC p i) = l0 at *
  generalize l0.map zcG = l at *
  have hpot:Pot fI.src fI.dst fI.cost (l.map aW) fun _=>0:=by
   intro k hk
   obtain ⟨j,b,_,_,_,e⟩:=S.sound k hk
   rw [e]
   show (0:Int) <= 0 + 0
   omega
  have htoo:((List.replicate n (0:Int)).set (el dues i).To.toNat 1).length = n:=by rw [List.length_set,List.length_replicate]
  obtain ⟨best,last,q1,q2,q3,T⟩:=aEE (n:=n) (by omega) hl1 (by omega) htoo hpot
  have hroot:∀ v,v < n->(decide (el ((List.replicate n (0:Int)).set (el dues i).To.toNat 1) v > 0) = true ↔ v = qQ dues i):=by
   intro v hv
   rw [decide_eq_true_eq,dM,List.length_replicate,lR _ _ _ hv]
   unfold qQ
   by_cases e:v = (el dues i).To.toNat
   ·rw [if_pos ⟨e,by omega⟩]; simp [e]
   ·rw [if_neg fun q=>e q.1]; simp [e]
  have cT:0 <= (el dues i).To ∧ (el dues i).To.toNat < (List.replicate n (0:Int)).length:=⟨by omega,by rw [List.length_replicate]; omega⟩
  have eT:(List.replicate n (0:Int))[(el dues i).To.toNat]? = some 0:=by rw [EG _ _ (by rw [List.length_replicate]; omega),lR _ _ _ (by omega)]
  have cF:0 <= (el dues i).From ∧ (el dues i).From.toNat < (best.map lY).length:=⟨by omega,by rw [List.length_map]; omega⟩
  have eF:(best.map lY)[(el dues i).From.toNat]? = some (lY (el best (n9 dues i))):=by rw [List.getElem?_map,EG best _ (by omega)]; rfl
  have c0:0 <= (n:Int) ∧ (n:Int) <= (n:Int) ∧ 8 * (n:Int) <= 281474976710656 ∧ (n:Int) <= 9223372036854775807:=by omega
  have hgf:(lY (el best (n9 dues i))).fine = (el best (n9 dues i)).fine:=rfl
  by_cases hf:(el best (n9 dues i)).fine = true
  ·obtain ⟨ks,u,w,hu,hRu,hFu,hk⟩:=T.path _ (n9 dues i) (Nat.lt_succ_self _) (h.fr i hi) hf
   obtain rfl:=(hroot u hu).1 hRu
   have hkl:∀ k ∈ ks,k < l.length:=fun k hks=>by have:=(hk k hks).1; rwa [List.length_map] at this
   have hk' : ∀ k ∈ ks,k < (l.map aW).length ∧ (fun v=>(el best v).k.toNat) (el (l.map aW) k).src < (fun v=>(el best v).k.toNat) (el (l.map aW) k).dst:=fun k hks=>⟨(hk k hks).1,(hk k hks).2.2.2.1⟩
   obtain ⟨_,hnd⟩:=w.dues S (μ:=fun v=>(el best v).k.toNat) hk'
   have hksl:ks.length <= 100:=by
    have:=P6 dues.length _ hnd (fun z hz=>by
     obtain ⟨k,hks,rfl⟩:=List.mem_map.1 hz
     rw [gK aW l k (hkl k hks)]
     have:=hl2 (el l k) (mF _ _ (hkl k hks))
     show (el l k).due.toNat < _
     omega)
    rw [List.length_map] at this
    omega
   have hpos:∀ k ∈ ks,0 < (el l k).most:=fun k hks=>by
    obtain ⟨j,b,_,_,hm,e⟩:=S.sound k (hk k hks).1
    rw [← aD2 (hkl k hks),e]; exact hm
   unfold tZ at hfull hxi
   have hmm:=XF l ks ((el dues i).Sum - el x i)
   have hmp:=SM l ks ((el dues i).Sum - el x i) (by omega) hpos
   have w1:=aCl hl1 q3 n dues p i x (best.map lY) w (h.fr i hi) ((el dues i).Sum - el x i)
   have hfrE:((n9 dues i:Nat):Int) = (el dues i).From:=by unfold n9; omega
   rw [hfrE] at w1
   generalize RT l ((el dues i).Sum - el x i) ks = d at *
   have w2:=aAT hl1 q3 (m:=dues.length) hl2 n dues p i (best.map lY) (d:=d) (D:=1099511627776) (by omega) (by omega) w (h.fr i hi) x 1099511627776 hl (fun j=>by
    by_cases hj:j < dues.length
    ·have:=hr j hj; have:=h.each j hj; unfold tZ at *; omega
    ·rw [show el x j = 0 by simp [el,show ¬ j < x.length by omega]]; omega) (by
    have:(ks.length:Int) * 1099511627776 <= 100 * 1099511627776:=Int.mul_le_mul_of_nonneg_right (by omega) (by omega)
    omega)
   rw [hfrE] at w2
   obtain ⟨m0,m1,m2,m3,m4,m5⟩:=aDc hl hi S hB hc hpi (μ:=fun v=>(el best v).k.toNat) w hk' (d:=d) (by omega) (fun k hks=>by rw [aD2 (hkl k hks)]; exact hmm.2 k hks) (by unfold tZ; omega)
   refine .inl ⟨_,?_,m1,m2,m3,m4,?_⟩
   ·unfold cP
    have wS:IntKind.wrap .i64 ((el dues i).Sum - el x i) = (el dues i).Sum - el x i:=lL (by omega) (by omega)
    have hml:(CV (l.map aW) d x ks).length = dues.length:=by rw [P5,hl]
    have c5:0 <= (i:Int) ∧ (i:Int).toNat < (CV (l.map aW) d x ks).length:=⟨by omega,by rw [Int.toNat_natCast]; omega⟩
    have e5:(CV (l.map aW) d x ks)[(i:Int).toNat]? = some (el (CV (l.map aW) d x ks) i):=by rw [Int.toNat_natCast]; exact EG _ i (by omega)
    have w5:IntKind.wrap .i64 (el (CV (l.map aW) d x ks) i + d) = el (CV (l.map aW) d x ks) i + d:=by rw [m0]; exact lL (by omega) (by omega)
    have cn:¬ (!(el best (n9 dues i)).fine) = true:=by rw [hf]; decide
    simp only [if_pos c4,e4,Option.bind_some,eD,if_pos hfull',hst,hti,if_pos c0,Int.toNat_natCast n,if_pos cT,eT,hz,q1,if_pos cF,eF,hgf,if_neg cn,wS,w1,w2,if_pos c5,e5,w5]
    rw [Int.toNat_natCast]
   ·rw [gK (·.Sum) dues i hi,m5]
    omega
  ·refine .inr ⟨.inr ?_,?_⟩
   ·unfold cP
    have cn:(!(el best (n9 dues i)).fine) = true:=by simpa using hf
    simp only [if_pos c4,e4,Option.bind_some,eD,if_pos hfull',hst,hti,if_pos c0,Int.toNat_natCast n,if_pos cT,eT,hz,q1,if_pos cF,eF,hgf,if_pos cn]
   ·refine aHd hi h.fr h.tt hB hc S (F:=fun v=>(el best v).fine) (fun k hk hF=>(T.closed k hk hF).1) (T.root _ (h.tt i hi) ((hroot _ (h.tt i hi)).2 rfl)) (by simpa using hf)
 ·refine .inr ⟨.inl ?_,aBo hi (by omega)⟩
  unfold cP
  have hfull' : ¬ decide (el x i < (el dues i).Sum) = true:=by simpa [tZ] using hfull
  rw [if_pos c4,e4,Option.bind_some,eD,Option.bind_some,if_neg hfull']
theorem aNH (h:EM n dues) (hp:p.length = n) (hpb:∀ v,v < n->-1000 <= el p v ∧ el p v <= 1000) {i:Nat} (hi:i < dues.length) {x:List Int} (hl:x.length = dues.length) (hB:vW (n9 dues) (qQ dues) (tZ dues) n dues.length (el x)) (hc:t8 (n9 dues) (qQ dues) (tZ dues) dues.length (el x) (el p)) :
  ∃ x',m8 n dues x p i = some x' ∧ x'.length = dues.length ∧ vW (n9 dues) (qQ dues) (tZ dues) n dues.length (el x') ∧ t8 (n9 dues) (qQ dues) (tZ dues) dues.length (el x') (el p) ∧ (∀ j,j < i->el x' j = el x j) ∧ CD (n9 dues) (qQ dues) (tZ dues) n dues.length (el x') i:=by
 have hdi:=h.each i hi
 have hnn:=h.nn
 have eD:=bU dues i hi
 have eT:at? p (el dues i).To = some (el p (qQ dues i)):=by
  have:=bU p (el dues i).To.toNat (by omega)
  rwa [Int.toNat_of_nonneg hdi.2.1.1] at this
 have eF:at? p (el dues i).From = some (el p (n9 dues i)):=by
  have:=bU p (el dues i).From.toNat (by omega)
  rwa [Int.toNat_of_nonneg hdi.1.1] at this
 have bF:=hpb _ (h.fr i hi)
 unfold m8
 rw [eD,Option.bind_some,eT,Option.bind_some,Option.bind_some,eF,Option.bind_some,lL (by omega) (by omega)]
 by_cases hpi:el p (qQ dues i) = el p (n9 dues i) - 1
 ·have cn:¬ (el p (qQ dues i) != el p (n9 dues i) - 1) = true:=by simpa using hpi
  rw [if_neg cn]
  unfold pS
  obtain ⟨z,h1,h2⟩:=I8 (step:=fun (w:List Int)=>cP n dues p i w) (fun w=>w.length = dues.length ∧ vW (n9 dues) (qQ dues) (tZ dues) n dues.length (el w) ∧ t8 (n9 dues) (qQ dues) (tZ dues) dues.length (el w) (el p) ∧ ∀ j,j < i->el w j = el x j) (fun w=>(el (dues.map (·.Sum)) i - el w i).toNat)
   (fun z=>∃ x' : List Int,(z = .inl x' ∨ z = .inr x') ∧ x'.length = dues.length ∧ vW (n9 dues) (qQ dues) (tZ dues) n dues.length (el x') ∧ t8 (n9 dues) (qQ dues) (tZ dues) dues.length (el x') (el p) ∧ (∀ j,j < i->el x' j = el x j) ∧ CD (n9 dues) (qQ dues) (tZ dues) n dues.length (el x') i) (fun w ⟨i1,i2,i3,i4⟩=>by
    rcases aCF h hp hpb hi i1 i2 i3 hpi with ⟨x',s1,s2,s3,s4,s5,s6⟩ | ⟨s1 | s1,s2⟩
    ·exact .inl ⟨x',s1,⟨s2,s3,s4,fun j hj=>by rw [s5 j hj,i4 j hj]⟩,s6⟩
    ·exact .inr ⟨_,s1,w,.inl rfl,i1,i2,i3,i4,s2⟩
    ·exact .inr ⟨_,s1,w,.inr rfl,i1,i2,i3,i4,s2⟩) x ⟨hl,hB,hc,fun _ _=>rfl⟩
  obtain ⟨x',h3,h4⟩:=h2
  refine ⟨x',?_,h4⟩
  rw [h1,Option.bind_some]
  rcases h3 with rfl | rfl <;> rfl
 ·have cn:(el p (qQ dues i) != el p (n9 dues i) - 1) = true:=by simpa using hpi
  rw [if_pos cn]
  exact ⟨x,rfl,hl,hB,hc,fun _ _=>rfl,aAm hi h.fr h.tt hB hc hpi⟩
structure UL (n:Nat) (dues:List aH) (x q:List Int):Prop where
 len:x.length = dues.length
 lenQ:q.length = n
 bald:vW (n9 dues) (qQ dues) (tZ dues) n dues.length (el x)
 cert:t8 (n9 dues) (qQ dues) (tZ dues) dues.length (el x) (el q)
 lex:∀ i,i < dues.length->CD (n9 dues) (qQ dues) (tZ dues) n dues.length (el x) i
 least:KR n ((iJ dues (el x) dues.length).map aW) (el q)
theorem UL.one {x q x' q' : List Int} (h:EM n dues) (a:UL n dues x q) (b:UL n dues x' q'):x = x' ∧ q = q':=by
 have hs:dO (el x) dues.length = dO (el x') dues.length:=by
  have h1:=JD h.fr h.tt a.bald b.bald a.cert
  have h2:=JD h.fr h.tt b.bald a.bald b.cert
  omega
 have e:=aM1 a.bald b.bald hs a.lex b.lex
 have e1:x = x':=EI (by rw [a.len,b.len]) fun i hi=>e i (by rw [← a.len]; exact hi)
 subst e1
 refine ⟨rfl,EI (by rw [a.lenQ,b.lenQ]) fun v hv=>a.least.one b.least (by rw [← a.lenQ]; exact hv)⟩
theorem aRy (h:EM n dues):mC n dues 0 (List.replicate dues.length (0:Int)) = some (dues.map (·.Sum)):=by
 unfold mC
 have hlen:=h.len
 suffices hh:∃ y,dK (fun (w:Int × List Int)=>dF n dues w.1 w.2) (0,List.replicate dues.length (0:Int)) = some y ∧ y = dues.map (·.Sum) by
  obtain ⟨y,h1,h2⟩:=hh
  rw [h2] at h1; exact h1
 refine eQ (step:=fun (w:Int × List Int)=>dF n dues w.1 w.2) (fun k (a:List Int)=>((k:Int),a)) dues.length (fun k a=>a.length = dues.length ∧ ∀ j,j < k->el a j = (el dues j).Sum) _ ?_ ?_ _ ⟨List.length_replicate,fun j hj=>absurd hj (Nat.not_lt_zero _)⟩
 ·rintro k a hk ⟨h1,h2⟩
  refine .inl ⟨a.set k (el dues k).Sum,?_,by simp [h1],fun j hj=>?_⟩
  ·show dF n dues k a = _
   unfold dF
   have c0:decide ((k:Int) < (dues.length:Int)) = true:=by simpa using hk
   have ck:0 <= (k:Int) ∧ (k:Int).toNat < a.length:=⟨by omega,by rw [Int.toNat_natCast]; omega⟩
   have ek:a[(k:Int).toNat]? = some (el a k):=by rw [Int.toNat_natCast]; exact EG a k (by omega)
   have w3:IntKind.wrap .i64 ((k:Int) + 1) = ((k + 1:Nat):Int):=bC (by omega)
   simp only [if_pos c0,bU dues k hk,Option.bind_some,if_pos ck,ek,w3]
   rw [Int.toNat_natCast]
  ·rw [dM]
   by_cases e:j = k
   ·subst e; rw [if_pos ⟨rfl,by omega⟩]
   ·rw [if_neg fun q=>e q.1]; exact h2 j (by omega)
 ·rintro a ⟨h1,h2⟩
  refine ⟨a,?_,?_⟩
  ·show dF n dues dues.length a = _
   unfold dF
   rw [if_neg (by simp)]
  ·refine EI (by rw [h1,List.length_map]) fun j hj=>?_
   rw [h1] at hj
   rw [h2 j hj,gK (·.Sum) dues j hj]
theorem KR.cert (h:EM n dues) {x:List Int} {q:Nat->Int} (hq:KR n ((iJ dues (el x) dues.length).map aW) q):t8 (n9 dues) (qQ dues) (tZ dues) dues.length (el x) q :=
 (MR (QZ h (el x)) q).2 hq.pot
theorem aQS (h:EM n dues) (hR:jF n dues = some true):∃ x q,kV n dues = some (x,q,0) ∧ UL n dues x q:=by
 have hlen:=h.len
 have hnn:=h.nn
 unfold kV
 rw [hR,Option.bind_some,if_neg (by decide),if_pos (by omega),Int.toNat_natCast,aRy h,Option.bind_some]
 obtain ⟨x0,a1,a2,a3,p0,a4⟩:=aE1 h (sums:=dues.map (·.Sum)) (by rw [List.length_map]) fun i hi=>by rw [gK (·.Sum) dues i hi]; rfl
 obtain ⟨q0,b1,b2,b3⟩:=aI4 h a2 (fun i hi=>⟨a3.lo i hi,a3.hi i hi⟩) a4
 have b4:=b3.cert h
 have hpb:∀ v,v < n->-1000 <= el q0 v ∧ el q0 v <= 1000:=fun v hv=>by have:=b3.le0 v hv; have:=b3.lo v hv; omega
 rw [a1,Option.bind_some,b1,Option.bind_some]
 have hl2:∃ x,mD n dues q0 0 x0 = some x ∧ x.length = dues.length ∧ vW (n9 dues) (qQ dues) (tZ dues) n dues.length (el x) ∧ t8 (n9 dues) (qQ dues) (tZ dues) dues.length (el x) (el q0) ∧ ∀ i,i < dues.length->CD (n9 dues) (qQ dues) (tZ dues) n dues.length (el x) i:=by
  unfold mD
  refine eQ (step:=fun (w:Int × List Int)=>dQ n dues q0 w.1 w.2) (fun k (a:List Int)=>((k:Int),a)) dues.length (fun k a=>a.length = dues.length ∧ vW (n9 dues) (qQ dues) (tZ dues) n dues.length (el a) ∧ t8 (n9 dues) (qQ dues) (tZ dues) dues.length (el a) (el q0) ∧ ∀ i,i < k->CD (n9 dues) (qQ dues) (tZ dues) n dues.length (el a) i) _ ?_ ?_ _ ⟨a2,a3,b4,fun j hj=>absurd hj (Nat.not_lt_zero _)⟩
  ·rintro k a hk ⟨i1,i2,i3,i4⟩
   obtain ⟨x',r1,r2,r3,r4,r5,r6⟩:=aNH h b2 hpb hk i1 i2 i3
   refine .inl ⟨x',?_,r2,r3,r4,fun j hj=>?_⟩
   ·show dQ n dues q0 k a = _
    unfold dQ
    have c0:decide ((k:Int) < (dues.length:Int)) = true:=by simpa using hk
    rw [if_pos c0,r1,Option.bind_some,bC (by omega)]
   ·by_cases e:j = k
    ·subst e; exact r6
    ·exact (i4 j (by omega)).keep (fun j' hj'=>r5 j' (by omega)) (JD h.fr h.tt r3 i2 r4)
  ·rintro a hI
   refine ⟨a,?_,hI⟩
   show dQ n dues q0 dues.length a = _
   unfold dQ
   rw [if_neg (by simp)]
 obtain ⟨x,d1,d2,d3,d4,d5⟩:=hl2
 obtain ⟨q,f1,f2,f3⟩:=aI4 h d2 (fun i hi=>⟨d3.lo i hi,d3.hi i hi⟩) d4
 rw [d1,Option.bind_some,f1,Option.bind_some]
 exact ⟨x,q,rfl,d2,f2,d3,f3.cert h,d5,f3⟩
end
end Go.Proofs.Ytgjcnbgfaimepaa
namespace Go.Proofs.Ytgjcnbgfaimepaa
open Go.RowKit Vm
def rQ (n:Int) (d:aH):Prop:=(0 <= d.From ∧ d.From < n) ∧ (0 <= d.To ∧ d.To < n) ∧ d.From ≠ d.To ∧ 1 <= d.Sum ∧ d.Sum <= 1099511627776
instance (n:Int) (d:aH):Decidable (rQ n d):=by unfold rQ; exact inferInstance
def OC (n:Int) (dues:List aH):Bool:=decide (0 <= n ∧ n <= 40) && decide (dues.length <= 100) && vY (fun i=>decide (rQ n (el dues i))) dues.length
theorem QE {n:Int} {dues:List aH}:OC n dues = true ↔ ∃ m:Nat,n = m ∧ EM m dues:=by
 unfold OC
 rw [Bool.and_eq_true,Bool.and_eq_true,decide_eq_true_eq,decide_eq_true_eq,i7]
 constructor
 ·rintro ⟨⟨⟨h1,h2⟩,h3⟩,h4⟩
  refine ⟨n.toNat,by omega,⟨by omega,h3,fun i hi=>?_⟩⟩
  have:=of_decide_eq_true (h4 i hi)
  unfold rQ at this
  omega
 ·rintro ⟨m,rfl,h⟩
  refine ⟨⟨⟨by omega,by have:=h.nn; omega⟩,h.len⟩,fun i hi=>decide_eq_true (h.each i hi)⟩
theorem aDI (n:Int) (dues:List aH):jF n dues = some (OC n dues):=by
 unfold jF OC
 by_cases h1:0 <= n ∧ n <= 40
 ·have c1:¬ decide (n < 0) = true:=by simp; omega
  have c2:¬ decide (n > 40) = true:=by simp; omega
  rw [if_neg c1,if_neg c2,decide_eq_true h1]
  by_cases h2:dues.length <= 100
  ·have c3:¬ decide ((dues.length:Int) > 100) = true:=by simp; omega
   rw [if_neg c3,decide_eq_true h2]
   have key:l9 n dues 0 = some (if vY (fun i=>decide (rQ n (el dues i))) dues.length = true then .inl () else .inr ()):=by
    unfold l9
    refine uE? (step:=fun w=>dS n dues w) (fun i:Nat=>(i:Int)) dues.length (fun i=>decide (rQ n (el dues i))) () ?_ ?_
    ·intro i hi
     show dS n dues i = _
     unfold dS
     have w3:IntKind.wrap .i64 ((i:Int) + 1) = ((i + 1:Nat):Int):=bC (by omega)
     have c0:decide ((i:Int) < (dues.length:Int)) = true:=by simpa using hi
     simp only [if_pos c0,bU dues i hi,Option.bind_some,w3]
     simp only [decide_eq_true_eq,beq_iff_eq]
     generalize el dues i = d
     by_cases a1:d.From < 0
     ·have hno:¬ rQ n d:=by unfold rQ; omega
      rw [if_pos a1,if_neg hno]
     rw [if_neg a1]
     by_cases a2:d.From ≥ n
     ·have hno:¬ rQ n d:=by unfold rQ; omega
      rw [if_pos a2,if_neg hno]
     rw [if_neg a2]
     by_cases a3:d.To < 0
     ·have hno:¬ rQ n d:=by unfold rQ; omega
      rw [if_pos a3,if_neg hno]
     rw [if_neg a3]
     by_cases a4:d.To ≥ n
     ·have hno:¬ rQ n d:=by unfold rQ; omega
      rw [if_pos a4,if_neg hno]
     rw [if_neg a4]
     by_cases a5:d.From = d.To
     ·have hno:¬ rQ n d:=by unfold rQ; omega
      rw [if_pos a5,if_neg hno]
     rw [if_neg a5]
     by_cases a6:d.Sum < 1
     ·have hno:¬ rQ n d:=by unfold rQ; omega
      rw [if_pos a6,if_neg hno]
     rw [if_neg a6]
     by_cases a7:d.Sum > 1099511627776
     ·have hno:¬ rQ n d:=by unfold rQ; omega
      rw [if_pos a7,if_neg hno]
     rw [if_neg a7,if_pos (show rQ n d by unfold rQ; omega)]
    ·show dS n dues dues.length = _
     unfold dS
     rw [if_neg (by simp)]
   rw [key,Option.bind_some]
   cases vY (fun i=>decide (rQ n (el dues i))) dues.length <;> rfl
  ·have c3:decide ((dues.length:Int) > 100) = true:=by simp; omega
   rw [if_pos c3,decide_eq_false h2]; rfl
 ·rw [decide_eq_false h1]
  by_cases h2:n < 0
  ·rw [if_pos (decide_eq_true h2)]; rfl
  ·have c1:¬ decide (n < 0) = true:=by simpa using h2
   have c2:decide (n > 40) = true:=by simp; omega
   rw [if_neg c1,if_pos c2]; rfl
def UK (x:List Int):Bool:=vY (fun i=>decide (0 <= el x i ∧ el x i <= 1099511627776)) x.length
def NT (x:List Int):Int:=if x.length <= 100 ∧ UK x = true then dO (el x) x.length else 0
theorem RU {g:Nat->Int} {B:Int} (hB:0 <= B):∀ k,(∀ i,i < k->0 <= g i ∧ g i <= B)->0 <= dO g k ∧ dO g k <= (k:Int) * B
 | 0,_=>by simp [dO]
 | k + 1,h=>by
  have:=RU hB k fun i hi=>h i (by omega)
  have hk:=h k (by omega)
  show 0 <= dO g k + g k ∧ dO g k + g k <= ((k + 1:Nat):Int) * B
  rw [show ((k + 1:Nat):Int) = (k:Int) + 1 by omega,Int.add_mul,Int.one_mul]
  omega
theorem WJ (x:List Int):dN x = some (NT x):=by
 unfold dN NT
 by_cases h2:x.length <= 100
 ·have c3:¬ decide ((x.length:Int) > 100) = true:=by simp; omega
  rw [if_neg c3]
  unfold pT
  obtain ⟨z,h1,h3⟩:=eQ (step:=fun (w:Int × Int)=>cO x w.1 w.2) (fun k (a:Int)=>(a,(k:Int))) x.length (fun k a=>a = dO (el x) k ∧ ∀ i,i < k->0 <= el x i ∧ el x i <= 1099511627776)
   (fun z=>(z = .inl (dO (el x) x.length) ∧ UK x = true) ∨ (z = .inr () ∧ UK x = false)) (by
    rintro k a hk ⟨rfl,hI⟩
    have hb:=RU (g:=el x) (B:=1099511627776) (by omega) k hI
    have c0:decide ((k:Int) < (x.length:Int)) = true:=by simpa using hk
    have w3:IntKind.wrap .i64 ((k:Int) + 1) = ((k + 1:Nat):Int):=bC (by omega)
    by_cases hx:0 <= el x k ∧ el x k <= 1099511627776
    ·refine .inl ⟨dO (el x) (k + 1),?_,rfl,fun i hi=>?_⟩
     ·show cO x (dO (el x) k) k = _
      unfold cO
      have hk2:(k:Int) * 1099511627776 <= 100 * 1099511627776:=by omega
      have d1:¬ decide (el x k < 0) = true:=by simp; omega
      have d2:¬ decide (el x k > 1099511627776) = true:=by simp; omega
      rw [if_pos c0,bU x k hk,Option.bind_some,if_neg d1,if_neg d2,lL (by omega) (by omega),w3]
      rfl
     ·by_cases e:i = k
      ·subst e; exact hx
      ·exact hI i (by omega)
    ·refine .inr ⟨.inr (),?_,.inr ⟨rfl,?_⟩⟩
     ·show cO x (dO (el x) k) k = _
      unfold cO
      rw [if_pos c0,bU x k hk,Option.bind_some]
      by_cases d1:el x k < 0
      ·rw [if_pos (decide_eq_true d1)]
      ·have d2:decide (el x k > 1099511627776) = true:=by simp; omega
       rw [if_neg (by simpa using d1),if_pos d2]
     ·rw [← Bool.not_eq_true,UK,i7]
      exact fun q=>hx (of_decide_eq_true (q k hk))) (by
    rintro a ⟨rfl,hI⟩
    refine ⟨.inl (dO (el x) x.length),?_,.inl ⟨rfl,i7.2 fun i hi=>decide_eq_true (hI i hi)⟩⟩
    show cO x _ x.length = _
    unfold cO
    rw [if_neg (by simp)]) 0 ⟨rfl,fun i hi=>absurd hi (Nat.not_lt_zero _)⟩
  rw [show ((0:Nat):Int) = 0 from rfl] at h1
  rw [h1,Option.bind_some]
  rcases h3 with ⟨rfl,h⟩ | ⟨rfl,h⟩
  ·rw [if_pos ⟨h2,h⟩]; rfl
  ·rw [if_neg (by rw [h]; simp)]; rfl
 ·have c3:decide ((x.length:Int) > 100) = true:=by simp; omega
  rw [if_pos c3,if_neg (fun q=>h2 q.1)]
end Go.Proofs.Ytgjcnbgfaimepaa
namespace Go.Proofs.Ytgjcnbgfaimepaa
open Go.RowKit Vm
section
variable {n:Nat} {dues:List aH} {x q:List Int}
structure aVa (n:Nat) (dues:List aH) (x q:List Int):Prop where
 len:x.length = dues.length
 lenQ:q.length = n
 bald:vW (n9 dues) (qQ dues) (tZ dues) n dues.length (el x)
 rng:∀ v,v < n->-40 <= el q v ∧ el q v <= 40
 cert:t8 (n9 dues) (qQ dues) (tZ dues) dues.length (el x) (el q)
end
end Go.Proofs.Ytgjcnbgfaimepaa
