/- The small machine. -/
import Derived.Test.YtoefdnkjcfoccaaDoorVmC
import Derived.RangeFuncRecord
namespace Go.Proofs.YtoefdnkjcfoccaaDoor
section
namespace Vm
open Go.RowKit
def aEv (keep:List Nat) (bl:Nat->Option aO):V->Bool
 | .ptr id _=>match bl id with
  | some (.box _)=>keep.contains id
  | _=>false
 | _=>false
def uI (keep:List Nat) (bl:Nat->Option aO):V->V
 | .ptr id off=>match bl id with
  | some (.box _)=>if keep.contains id then .ptr id off else .any
  | some (.fbox cs)=>.d (.ptr cs off)
  | _=>.any
 | .own id ver=>match bl id with
  | some (.rows v _ _ _)=>if keep.contains id && ver == v then .own id 0 else .any
  | some (.froz v rows)=>if ver = v then .d (.sl rows) else .any
  | _=>.any
 | .orow id ver i off=>match bl id with
  | some (.rows v _ _ _)=>if keep.contains id && ver == v then .orow id 0 i off else .any
  | _=>.any
 | .fn f caps=>if caps.all (aEv keep bl) = true then .fn f caps else .any
 | .mp id=>match bl id with
  | some (.mp _ _)=>if keep.contains id then .mp id else .any
  | some (.fmp ek m)=>.d (.mp ek m)
  | _=>.any
 | v=>v
def QW (keep:List Nat) (bl:Nat->Option aO):V->V
 | .agg cs=>.agg (cs.map (uI keep bl))
 | v=>uI keep bl v
def HK (keep:List Nat) (bl:Nat->Option aO):V->V
 | .tup vs=>.tup (vs.map (QW keep bl))
 | v=>QW keep bl v
def D8 (keep:List Nat) (bl:Nat->Option aO):aO->Option aO
 | .box cs=>some (.box (cs.map (uI keep bl)))
 | .rows _ e s rows=>some (.rows 0 e s rows)
 | .froz _ _=>none
 | .fbox _=>none
 | .outer cs=>some (.outer (cs.map (HK keep bl)))
 | .mp ek m=>some (.mp ek m)
 | .fmp _ _=>none
def mkT (p:Nat × Nat × Nat × Nat) (s:St):St:=match s.get p.1,s.blk p.2.1 with
 | .nil,none=>if 0 < p.2.2.2 then ⟨(p.1,.own p.2.1 0) :: s.fr,(p.2.1,some (.rows 0 p.2.2.1 p.2.2.2 [])) :: s.bl⟩ else s
 | _,_=>s
def mkC (p:Nat × Nat × Nat × Nat × Nat) (s:St):St:=match s.blk p.1,s.blk p.2.2.1 with
 | some (.box cs),none=>match cs[p.2.1]? with
  | some .nil=>if 0 < p.2.2.2.2 then ⟨s.fr,(p.1,some (.box (cs.set p.2.1 (.own p.2.2.1 0)))) :: (p.2.2.1,some (.rows 0 p.2.2.2.1 p.2.2.2.2 [])) :: s.bl⟩ else s
  | _=>s
 | _,_=>s
def O9 (t:Nat) (s:St):St:=match nF s.blk (s.get t) with
 | some d=>⟨(t,.d d) :: s.fr,GC s.blk (s.get t) ++ s.bl⟩
 | none=>s
def frC (p:Nat × Nat) (s:St):St:=match s.blk p.1 with
 | some (.box cs)=>match cs[p.2]? with
  | some v=>match iQ s.blk v with
   | some d=>⟨s.fr,(p.1,some (.box (cs.set p.2 (.d d)))) :: (CP s.blk v ++ s.bl)⟩
   | none=>s
  | none=>s
 | _=>s
def W9 (live keep:List Nat) (s:St):St:=⟨live.map fun t=>(t,HK keep s.blk (s.get t)),keep.map fun i=>(i,(s.blk i).bind (D8 keep s.blk))⟩
def xF.app (m:xF) (s:St):St:=W9 m.live m.keep (m.fzC.foldl (fun s p=>frC p s) (m.fzT.foldl (fun s t=>O9 t s) (m.ownC.foldl (fun s p=>mkC p s) (m.ownT.foldl (fun s p=>mkT p s) s))))
section
variable {nt:Nat} {w0:cF} {w:World} {h0 h:Hp} {s:St} {a:Act} {hd:Nat->Value}
theorem aCH {α:Type} (f:Nat->α) (d:α) (t:Nat):∀ l:List Nat,lk (l.map fun i=>(i,f i)) d t = if t ∈ l then f t else d
 | []=>rfl
 | k :: l=>by
  simp only [á,lk,aCH f d t l,Û]
  by_cases e:t = k
  ·subst e; simp
  ·simp [e]
theorem vU {fr:Nat->V} {bl bl' : Nat->Option aO} {keep:List Nat} (r:Rl nt w0 h0 fr bl a w h hd) (hbl:∀ i,bl' i = if i ∈ keep then (bl i).bind (D8 keep bl) else none) {v:Value} {x:V} (hx:R1 h hd bl v x):R1 h hd bl' v (uI keep bl x):=by
 cases x with
 | ptr id off =>
  obtain ⟨⟨b,hb,hbx⟩,g,q1,q2⟩:=hx
  simp only [uI,hb]
  cases b with
  | box cs =>
   simp only
   split
   ·rename_i hk
    exact ⟨⟨_,by rw [hbl,Â (by simpa using hk),hb]; rfl,rfl⟩,g,q1,q2⟩
   ·trivial
  | fbox cs =>
   have:=r.blk id _ hb
   simp only [BR,q1] at this
   subst q2
   exact ⟨rfl,OQ this⟩
  | _=>trivial
 | own id ver =>
  obtain ⟨b,c,hb,hc,hle,h1,he⟩:=hx
  simp only [uI,hb]
  cases b with
  | box cs=>trivial
  | fbox cs=>trivial
  | outer cs=>trivial
  | mp ek m=>trivial
  | fmp ek m=>trivial
  | rows v' e s rows =>
   simp only [aO.ver?,Ä] at hc
   simp only
   split
   ·rename_i hk
    simp only [ë,beq_iff_eq] at hk
    exact ⟨_,0,by rw [hbl,Â (by simpa using hk.1),hb]; rfl,rfl,Õ _,h1,fun _=>he (by omega)⟩
   ·trivial
  | froz v' rows =>
   simp only [aO.ver?,Ä] at hc
   simp only
   split
   ·rename_i hv
    refine ⟨rfl,?_⟩
    rw [he (by omega)]
    exact r.blk id _ hb
   ·trivial
 | orow id ver i off =>
  obtain ⟨b,c,hb,hc,hle,h1,he⟩:=hx
  simp only [uI,hb]
  cases b with
  | rows v' e s rows =>
   simp only [aO.ver?,Ä] at hc
   simp only
   split
   ·rename_i hk
    simp only [ë,beq_iff_eq] at hk
    obtain ⟨hk,rfl⟩:=hk
    refine ⟨_,0,by rw [hbl,Â (by simpa using hk),hb]; rfl,rfl,Õ _,h1,fun e' s' rows' eq=>?_⟩
    cases eq
    exact he e s rows rfl
   ·trivial
  | _=>trivial
 | mp id =>
  obtain ⟨⟨b,hb,hbx⟩,q1,g,q2⟩:=hx
  simp only [uI,hb]
  cases b with
  | mp ek m =>
   simp only
   split
   ·rename_i hk
    exact ⟨⟨_,by rw [hbl,Â (by simpa using hk),hb]; rfl,rfl⟩,q1,g,q2⟩
   ·trivial
  | fmp ek m =>
   have:=r.blk id _ hb
   subst q1
   exact ⟨rfl,this⟩
  | _=>trivial
 | any=>trivial
 | d x=>exact hx
 | nil=>exact hx
 | agg cs=>exact hx
 | tup cs=>exact hx
 | fn f caps =>
  simp only [uI]
  split
  ·rename_i hall
   obtain ⟨arr,e,hs,hr⟩:=hx
   refine ⟨arr,e,hs,fun j x hj=>?_⟩
   have hc:=Ì.1 hall x (Ê hj)
   have hxr:=hr j x hj
   cases x with
   | ptr id off =>
    obtain ⟨⟨b,hb,hx⟩,q⟩:=hxr
    simp only [aEv,hb] at hc
    cases b with
    | box cs =>
     simp only at hc
     exact ⟨⟨_,by rw [hbl,Â (by simpa using hc),hb]; rfl,rfl⟩,q⟩
    | _=>cases hc
   | _=>exact hxr.elim
  ·trivial
theorem vY {fr:Nat->V} {bl bl' : Nat->Option aO} {keep:List Nat} (r:Rl nt w0 h0 fr bl a w h hd) (hbl:∀ i,bl' i = if i ∈ keep then (bl i).bind (D8 keep bl) else none) {v:Value} {x:V} (hx:R2 h hd bl v x):R2 h hd bl' v (QW keep bl x):=by
 cases x with
 | agg cs =>
  obtain ⟨arr,rfl,h1,h2⟩:=hx
  refine ⟨arr,rfl,by simpa using h1,fun j x hx=>?_⟩
  rw [Ç,Á] at hx
  obtain ⟨y,hy,rfl⟩:=hx
  exact ⟨vU r hbl (h2 j y hy).1,(h2 j y hy).2⟩
 | tup vs=>exact (show False from hx).elim
 | any=>exact R2.of1 (vU r hbl (x:=.any) hx)
 | d x=>exact R2.of1 (vU r hbl (x:=.d x) hx)
 | nil=>exact R2.of1 (vU r hbl (x:=.nil) hx)
 | ptr i o=>exact R2.of1 (vU r hbl (x:=.ptr i o) hx)
 | own i n=>exact R2.of1 (vU r hbl (x:=.own i n) hx)
 | orow i n j o=>exact R2.of1 (vU r hbl (x:=.orow i n j o) hx)
 | fn f c=>exact R2.of1 (vU r hbl (x:=.fn f c) hx)
 | mp i=>exact R2.of1 (vU r hbl (x:=.mp i) hx)
theorem ZY {fr:Nat->V} {bl bl' : Nat->Option aO} {keep:List Nat} (r:Rl nt w0 h0 fr bl a w h hd) (hbl:∀ i,bl' i = if i ∈ keep then (bl i).bind (D8 keep bl) else none) {v:Value} {x:V} (hx:R3 h hd bl v x):R3 h hd bl' v (HK keep bl x):=by
 cases x with
 | tup vs =>
  obtain ⟨arr,rfl,h1,h2⟩:=hx
  refine ⟨arr,rfl,by simpa using h1,fun j x hx=>?_⟩
  rw [Ç,Á] at hx
  obtain ⟨y,hy,rfl⟩:=hx
  exact vY r hbl (h2 j y hy)
 | agg cs=>exact R3.of2 (vY r hbl (x:=.agg cs) hx)
 | any=>exact R3.of2 (vY r hbl (x:=.any) hx)
 | d x=>exact R3.of2 (vY r hbl (x:=.d x) hx)
 | nil=>exact R3.of2 (vY r hbl (x:=.nil) hx)
 | ptr i o=>exact R3.of2 (vY r hbl (x:=.ptr i o) hx)
 | own i n=>exact R3.of2 (vY r hbl (x:=.own i n) hx)
 | orow i n j o=>exact R3.of2 (vY r hbl (x:=.orow i n j o) hx)
 | fn f c=>exact R3.of2 (vY r hbl (x:=.fn f c) hx)
 | mp i=>exact R3.of2 (vY r hbl (x:=.mp i) hx)
theorem aMp (r:Rl nt w0 h0 s.get s.blk a w h hd) (live keep:List Nat):Rl nt w0 h0 (W9 live keep s).get (W9 live keep s).blk a w h hd:=by
 have hg:∀ t,(W9 live keep s).get t = if t ∈ live then HK keep s.blk (s.get t) else .any:=fun t=>aCH _ _ _ _
 have hb:∀ i,(W9 live keep s).blk i = if i ∈ keep then (s.blk i).bind (D8 keep s.blk) else none:=fun i=>aCH _ _ _ _
 have hcase:∀ id b,(W9 live keep s).blk id = some b->∃ b0,s.blk id = some b0 ∧ D8 keep s.blk b0 = some b:=by
  intro id b e
  rw [hb] at e
  split at e
  ·rw [ô] at e; exact e
  ·cases e
 refine { tmps:=r.tmps,defers:=r.defers,fixed:=r.fixed,below:=r.below,hle:=r.hle,h0le:=r.h0le,glob:=r.glob,hbase:=r.hbase,frame:=fun t=>?_,blk:=fun id b e=>?_,sep:=?_ }
 ·rw [hg]
  split
  ·exact ZY r hb (r.frame t)
  ·trivial
 ·obtain ⟨b0,e1,e2⟩:=hcase id b e
  have hB:=r.blk id b0 e1
  cases b0 with
  | box cs =>
   simp only [D8,Ä] at e2
   subst e2
   obtain ⟨g,arr,ee,q1,q2,q3,q4,q5,q6⟩:=hB
   refine ⟨g,arr,ee,q1,q2,q3,by simpa using q4,fun j x hx=>?_,q6⟩
   rw [Ç,Á] at hx
   obtain ⟨y,hy,rfl⟩:=hx
   exact ⟨vU r hb (q5 j y hy).1,(q5 j y hy).2⟩
  | rows v' ee ss rows=>simp only [D8,Ä] at e2; subst e2; exact hB
  | froz v' rows=>cases e2
  | fbox cs=>cases e2
  | mp ek m=>simp only [D8,Ä] at e2; subst e2; exact hB
  | fmp ek m=>cases e2
  | outer cs =>
   simp only [D8,Ä] at e2
   subst e2
   intro j x hx
   rw [Ç,Á] at hx
   obtain ⟨y,hy,rfl⟩:=hx
   exact ZY r hb (hB j y hy)
 ·intro i j bi bj g hi hj li lj gi gj
  obtain ⟨b0,e1,e2⟩:=hcase i bi hi
  obtain ⟨b1,e3,e4⟩:=hcase j bj hj
  have l0:b0.live = true:=by cases b0 <;> first | rfl | (cases e2; done) | (simp only [D8,Ä] at e2; subst e2; simp [aO.live] at li)
  have l1:b1.live = true:=by cases b1 <;> first | rfl | (cases e4; done) | (simp only [D8,Ä] at e4; subst e4; simp [aO.live] at lj)
  exact r.sep i j b0 b1 g e1 e3 l0 l1 gi gj
theorem aFh (r:Rl nt w0 h0 s.get s.blk a w h hd) {id e size:Nat} (hs:s.blk id = none) (hz:0 < size):∃ hd',Rl nt w0 h0 s.get (bQ s.blk [(id,some (.rows 0 e size []))]) a w h hd' ∧ hd' id = .slice none 0 0 ∧ R1 h hd' (bQ s.blk [(id,some (.rows 0 e size []))]) (.slice none 0 0) (.own id 0):=by
 obtain ⟨hd',hh,hr⟩:=r.newRows' (w':=w) none (fun d e=>by cases e) id hs e size [] (.slice none 0 0) [] hz (by simp [maxLen]) ⟨rfl,rfl,rfl,Õ _,fun _ _ _=>rfl⟩ (Ĉ w _ e size) (fun i row hi=>by simp at hi)
 exact ⟨hd',hr,hh,⟨_,0,nL _ _ _,rfl,Õ _,rfl,fun _=>hh.symm⟩⟩
theorem aSi (r:Rl nt w0 h0 s.get s.blk a w h hd) (p:Nat × Nat × Nat × Nat):∃ hd',Rl nt w0 h0 (mkT p s).get (mkT p s).blk a w h hd':=by
 obtain ⟨t,id,e,size⟩:=p
 unfold mkT
 split
 ·rename_i h1 h2
  split
  ·rename_i hz
   simp only at h1 h2 hz
   obtain ⟨hd',hr,hh,hv⟩:=aFh r h2 hz (e:=e)
   refine ⟨hd',?_⟩
   have e1:(⟨(t,.own id 0) :: s.fr,(id,some (.rows 0 e size [])) :: s.bl⟩ : St).get = fB s.get (some t) (.own id 0):=by
    funext t'
    simp only [St.get,lk,fB,Ä]
    by_cases q:t' = t
    ·rw [Â q,Â q.symm]
    ·rw [Ã q,Ã fun x=>q x.symm]
   have e2:(⟨(t,.own id 0) :: s.fr,(id,some (.rows 0 e size [])) :: s.bl⟩ : St).blk = bQ s.blk [(id,some (.rows 0 e size []))]:=by
    funext i
    simp only [St.blk,lk,bQ]
   simp only at e1 e2 ⊢
   rw [e1,e2]
   refine { hr with frame:=fun t'=>?_ }
   simp only [fB,Ä]
   by_cases q:t = t'
   ·rw [Â q]
    have:=r.frame t
    rw [h1] at this
    subst q
    rw [show a.tmps.getD t undef = _ from this]
    exact hv
   ·rw [Ã q]; exact hr.frame t'
  ·exact ⟨hd,r⟩
 ·exact ⟨hd,r⟩
theorem aSP (r:Rl nt w0 h0 s.get s.blk a w h hd) (p:Nat × Nat × Nat × Nat × Nat):∃ hd',Rl nt w0 h0 (mkC p s).get (mkC p s).blk a w h hd':=by
 obtain ⟨b,c,id,e,size⟩:=p
 unfold mkC
 split
 ·rename_i cs h1 h2
  split
  ·rename_i h3
   split
   ·rename_i hz
    simp only at h1 h2 h3 hz
    obtain ⟨hd',hr,hh,hv⟩:=aFh r h2 hz (e:=e)
    have hne:b ≠ id:=fun q=>by rw [q,h2] at h1; cases h1
    have hb' : bQ s.blk [(id,some (.rows 0 e size []))] b = some (.box cs):=by rw [y9 _ _ hne]; exact h1
    obtain ⟨g,arr,ee,q1,q2,q3,q4,q5,q6⟩:=hr.blk b _ hb'
    have hself:arr.getD c undef = .slice none 0 0:=(q5 c _ h3).1
    obtain ⟨hd'',hr''⟩:=hr.setBox (w':=w) none (fun d e=>by cases e) undef b cs (cs.set c (.own id 0)) hb' g arr arr ee q1 (by simpa using q4) (by
     intro j x hx
     rw [Ę] at hx
     split at hx
     ·rename_i hj
      subst hj
      split at hx
      ·cases hx
       rw [hself]
       exact ⟨hv,rfl⟩
      ·cases hx
     ·exact q5 j x hx) q3 ⟨rfl,rfl,rfl,Õ _,fun _ _ _=>rfl⟩
    refine ⟨hd'',?_⟩
    have e2:(⟨s.fr,(b,some (.box (cs.set c (.own id 0)))) :: (id,some (.rows 0 e size [])) :: s.bl⟩ : St).blk = bQ (bQ s.blk [(id,some (.rows 0 e size []))]) [(b,some (.box (cs.set c (.own id 0))))]:=by
     funext i
     simp only [St.blk,lk,bQ]
    simp only at e2 ⊢
    rw [e2]
    exact hr''
   ·exact ⟨hd,r⟩
  ·exact ⟨hd,r⟩
 ·exact ⟨hd,r⟩
theorem aC5 {α:Type}:∀ (l m:List (Nat × α)) (d:α) (t:Nat),lk (l ++ m) d t = lk l (lk m d t) t
 | [],m,d,t=>rfl
 | (k,v) :: l,m,d,t=>by simp only [Č,lk]; rw [aC5 l m d t]
theorem aRy (r:Rl nt w0 h0 s.get s.blk a w h hd) (t:Nat):∃ h',Rl nt w0 h0 (O9 t s).get (O9 t s).blk a w h' hd:=by
 unfold O9
 split
 ·rename_i d hd0
  refine ⟨H5 w h hd (GC s.blk (s.get t)),?_⟩
  have r':=r.freeze _ (aEl (bl:=s.blk) (s.get t))
  have e1:(⟨(t,.d d) :: s.fr,GC s.blk (s.get t) ++ s.bl⟩ : St).get = fB s.get (some t) (.d d):=by
   funext t'
   simp only [St.get,lk,fB,Ä]
   by_cases q:t' = t
   ·rw [Â q,Â q.symm]
   ·rw [Ã q,Ã fun x=>q x.symm]
  have e2:(⟨(t,.d d) :: s.fr,GC s.blk (s.get t) ++ s.bl⟩ : St).blk = bQ s.blk (GC s.blk (s.get t)):=by
   funext i
   simp only [St.blk,bQ,aC5]
  rw [e1,e2]
  refine { r' with frame:=fun t'=>?_ }
  simp only [fB,Ä]
  by_cases q:t = t'
  ·rw [Â q]
   subst q
   have hx:R1 h hd s.blk (a.tmps.getD t undef) (s.get t):=by
    have:=r.frame t
    cases hg:s.get t <;> rw [hg] at this hd0 <;> first | exact this | cases hd0
   have:=G8 r (GC s.blk (s.get t)) hx hd0 fun p hp=>hp
   exact ⟨this.2,this.1⟩
  ·rw [Ã q]; exact r'.frame t'
 ·exact ⟨h,r⟩
theorem aA7 {bl:Nat->Option aO} {v:V} {q:Nat × Option aO} {ds:List D} (h:q ∈ GC bl v) (h2:q.2 = some (.fbox ds)):False:=by
 unfold GC at h
 split at h
 ·split at h
  ·simp only [í] at h; rw [h] at h2; cases h2
  ·cases h
 ·split at h
  ·simp only [í] at h; rw [h] at h2; cases h2
  ·cases h
 ·cases h
theorem aKw {bl:Nat->Option aO} {v:V} {q:Nat × Option aO} {ds:List D} (h:q ∈ CP bl v) (h2:q.2 = some (.fbox ds)) (h3:∀ off,v = .ptr q.1 off->False):False:=by
 unfold CP at h
 split at h
 ·split at h
  ·split at h
   ·rcases Û.1 h with e | h
    ·exact h3 _ (by rw [e])
    ·obtain ⟨x,_,hx⟩:=Î.1 h
     exact aA7 hx h2
   ·cases h
  ·cases h
 ·exact aA7 h h2
theorem aSj (r:Rl nt w0 h0 s.get s.blk a w h hd) (p:Nat × Nat):∃ h' hd',Rl nt w0 h0 (frC p s).get (frC p s).blk a w h' hd':=by
 obtain ⟨b,c⟩:=p
 unfold frC
 split
 ·rename_i cs h1
  split
  ·rename_i v h3
   split
   ·rename_i d hd0
    simp only at h1 h3
    have r':=r.freeze _ (PC (bl:=s.blk) v)
    have hb' : bQ s.blk (CP s.blk v) b = some (.box cs):=by
     refine (vV ?_).trans h1
     intro hm
     obtain ⟨q,hq,rfl⟩:=Þ.1 hm
     rcases PC (bl:=s.blk) v q hq with ⟨v',e',s',rows,g1,_⟩ | ⟨cs',ds,g1,g2,_⟩ | ⟨ek,m,g1,_⟩
     ·rw [h1] at g1; cases g1
     ·refine aKw (bl:=s.blk) (v:=v) hq g2 fun off e=>?_
      subst e
      obtain ⟨ds',hds⟩ : ∃ ds',aT (nF s.blk) cs = some ds':=by
       unfold iQ at hd0
       dsimp only at hd0
       rw [h1] at hd0
       obtain ⟨ds',e1,_⟩:=Á.1 hd0
       exact ⟨ds',e1⟩
      obtain ⟨y,_,hy⟩:=(bP hds).2 c _ h3
      unfold nF at hy
      dsimp only at hy
      rw [h1] at hy
      cases hy
     ·rw [h1] at g1; cases g1
    obtain ⟨g,arr,ee,q1,q2,q3,q4,q5,q6⟩:=r'.blk b _ hb'
    obtain ⟨_,arr0,ee0,z1,z2,z3,z4,z5,z6⟩:=r.blk b _ h1
    rw [q1] at z1; cases z1
    rw [q3] at z3; cases z3
    have hval:=nB r (CP s.blk v) (z5 c v h3).1 hd0 fun p hp=>hp
    obtain ⟨hd'',hr''⟩:=r'.setBox (w':=w) none (fun d e=>by cases e) undef b cs (cs.set c (.d d)) hb' g arr arr ee q1 (by simpa using q4) (by
     intro j x hx
     rw [Ę] at hx
     split at hx
     ·rename_i hj
      subst hj
      split at hx
      ·cases hx
       exact ⟨⟨hval.2,hval.1⟩,(z5 c v h3).2⟩
      ·cases hx
     ·exact q5 j x hx) q3 ⟨rfl,rfl,rfl,Õ _,fun _ _ _=>rfl⟩
    refine ⟨H5 w h hd (CP s.blk v),hd'',?_⟩
    have e2:(⟨s.fr,(b,some (.box (cs.set c (.d d)))) :: (CP s.blk v ++ s.bl)⟩ : St).blk = bQ (bQ s.blk (CP s.blk v)) [(b,some (.box (cs.set c (.d d))))]:=by
     funext i
     simp only [St.blk,lk,bQ,aC5]
    simp only at e2 ⊢
    rw [e2]
    exact hr''
   ·exact ⟨h,hd,r⟩
  ·exact ⟨h,hd,r⟩
 ·exact ⟨h,hd,r⟩
theorem IP {α:Type} (f:α->St->St) (hf:∀ (x:α) (s:St) (h:Hp) (hd:Nat->Value),Rl nt w0 h0 s.get s.blk a w h hd->∃ h' hd',Rl nt w0 h0 (f x s).get (f x s).blk a w h' hd'):∀ (l:List α) (s:St) (h:Hp) (hd:Nat->Value),Rl nt w0 h0 s.get s.blk a w h hd->∃ h' hd',Rl nt w0 h0 (l.foldl (fun s x=>f x s) s).get (l.foldl (fun s x=>f x s) s).blk a w h' hd'
 | [],s,h,hd,r=>⟨h,hd,r⟩
 | x :: l,s,h,hd,r=>by
  obtain ⟨h',hd',r'⟩:=hf x s h hd r
  exact IP f hf l (f x s) h' hd' r'
theorem JI (r:Rl nt w0 h0 s.get s.blk a w h hd) (m:xF):∃ h' hd',Rl nt w0 h0 (m.app s).get (m.app s).blk a w h' hd':=by
 obtain ⟨h1,hd1,r1⟩:=IP mkT (fun x s h hd r=>⟨h,aSi r x⟩) m.ownT s h hd r
 obtain ⟨h2,hd2,r2⟩:=IP mkC (fun x s h hd r=>⟨h,aSP r x⟩) m.ownC _ h1 hd1 r1
 obtain ⟨h3,hd3,r3⟩:=IP O9 (fun x s h hd r=>let ⟨h',q⟩:=aRy r x; ⟨h',hd,q⟩) m.fzT _ h2 hd2 r2
 obtain ⟨h4,hd4,r4⟩:=IP frC (fun x s h hd r=>aSj r x) m.fzC _ h3 hd3 r3
 exact ⟨h4,hd4,aMp r4 m.live m.keep⟩
end
inductive Ex where
 | normal | exit (id:Nat) | ret
def Ex.go:Ex->Exit
 | .normal=>.normal
 | .exit id=>.exit id
 | .ret=>.ret
def BH (f:St->Option (Ex × St)):Nat->St->Option (Ex × St)
 | 0,_=>none
 | n + 1,s=>match f s with
  | some (.normal,s')=>BH f n s'
  | r=>r
def vD (s:St):kT->Option V
 | .tmp t=>some (s.get t)
 | .cell t size isAgg=>match cE (fun _ _=>none) 0 (fun _=>s.get t) s.blk (.load size isAgg (.t t)) with
  | some (v,_)=>some v
  | none=>none
def s8:Nat->List V->List (Nat × V)
 | _,[]=>[]
 | i,v :: vs=>(i,v) :: s8 (i + 1) vs
def V.noTup:V->Bool
 | .tup _=>false
 | _=>true
def WT (args:List bO) (id:Nat) (slots:List Nat) (s:St):Option St :=
 if (s.blk id).isNone = true then some ⟨s8 0 (args.map (bN s.get)),(id,some (.outer (slots.map s.get))) :: s.bl⟩ else none
def GX (ws:List V) (id:Nat) (slots:List Nat) (s:St):Option St :=
 if (s.blk id).isNone = true then some ⟨s8 0 ws,(id,some (.outer (slots.map s.get))) :: s.bl⟩ else none
def EU (f nc:Nat):V->Option (List V)
 | .fn g caps=>if g = f ∧ caps.length = nc then some caps else none
 | _=>none
def PW (dst:Option Nat) (v:V):List (Nat × V):=match dst with
 | some d=>[(d,v)]
 | none=>[]
def mS (dst:Option Nat) (res:List kT) (id:Nat) (slots:List Nat) (s:St):Option St:=match s.blk id,aT (vD s) res with
 | some (.outer cs),some [v]=>some ⟨PW dst v ++ slots.zip cs,(id,none) :: s.bl⟩
 | some (.outer cs),some vs=>if vs.all V.noTup = true then some ⟨PW dst (.tup vs) ++ slots.zip cs,(id,none) :: s.bl⟩ else none
 | _,_=>none
def bH (C:Nat->List D->Option D) (n:Nat):aP->St->Option (Ex × St)
 | .skip,s=>some (.normal,s)
 | .region ops draw,s=>match fG C ops draw s with
  | some s'=>some (.normal,s')
  | none=>none
 | .seq a b,s=>match bH C n a s with
  | some (.normal,s')=>bH C n b s'
  | r=>r
 | .cond c a b,s=>match bN s.get c with
  | .d (.bool true)=>bH C n a s
  | .d (.bool false)=>bH C n b s
  | _=>none
 | .block id a,s=>match bH C n a s with
  | some (.exit id',s')=>if id' = id then some (.normal,s') else some (.exit id',s')
  | r=>r
 | .loop a,s=>BH (bH C n a) n s
 | .exit id,s=>some (.exit id,s)
 | .ret,s=>some (.ret,s)
 | .inlv ops x nc args dst f body res id slots,s=>match j5 C ops s with
  | none=>none
  | some s1=>match EU f nc (bN s1.get x) with
   | none=>none
   | some caps=>match GX (args.map (bN s1.get) ++ caps) id slots s1 with
    | none=>none
    | some s2=>match bH C n body s2 with
     | some (.normal,s3)=>(mS dst res id slots s3).map fun s4=>(.normal,s4)
     | some (.ret,s3)=>(mS dst res id slots s3).map fun s4=>(.normal,s4)
     | _=>none
 | .pre m a,s=>bH C n a (m.app s)
 | .post a m,s=>match bH C n a s with
  | some (.normal,s')=>some (.normal,m.app s')
  | r=>r
 | .hand g,s=>match g s with
  | some s'=>some (.normal,s')
  | none=>none
 | .inl ops args dst f body res id slots,s=>match j5 C ops s with
  | none=>none
  | some s1=>match WT args id slots s1 with
   | none=>none
   | some s2=>match bH C n body s2 with
    | some (.normal,s3)=>(mS dst res id slots s3).map fun s4=>(.normal,s4)
    | some (.ret,s3)=>(mS dst res id slots s3).map fun s4=>(.normal,s4)
    | _=>none
theorem aBq {P:Program} {c:Code} {Q:Exit->Act->World->Prop} (G:Nat->Act->World->Prop) (zero:∀ a w,¬ G 0 a w) (round:∀ k a w,G (k + 1) a w->c.wp P (Exit.then (fun a' w'=>G k a' w') Q) a w) :
  ∀ k a w,G k a w->(Code.loop c).wp P Q a w:=by
 intro k a w hG
 have least:∀ a w,(∃ k,G k a w)->∃ k,G k a w ∧ ∀ j,G j a w->k <= j:=by
  intro a w ⟨k,hk⟩
  induction k using Nat.strongRecOn with
  | _ k ih =>
   by_cases h:∃ j,j < k ∧ G j a w
   ·obtain ⟨j,hj,hg⟩:=h; exact ih j hj hg
   ·exact ⟨k,hk,fun j hj=>Nat.le_of_not_lt fun hlt=>h ⟨j,hlt,hj⟩⟩
 refine wp_loop (fun a w=>∃ k,G k a w) (fun a w=>@dite _ (∃ k,G k a w) (Classical.propDecidable _) (fun h=>(least a w h).choose) (fun _=>0)) ⟨k,hG⟩ ?_
 intro a w hI
 have hsp:=(least a w hI).choose_spec
 generalize hk0:(least a w hI).choose = k0 at hsp
 obtain ⟨g1,g2⟩:=hsp
 cases k0 with
 | zero=>exact absurd g1 (zero a w)
 | succ k1 =>
  refine wp_mono (round k1 a w g1) fun e a' w' hq=>?_
  cases e with
  | normal =>
   refine ⟨⟨k1,hq⟩,?_⟩
   have hI' : ∃ k,G k a' w':=⟨k1,hq⟩
   have h2:=(least a' w' hI').choose_spec.2 k1 hq
   simp only [dif_pos hI',dif_pos hI,hk0]
   omega
  | _=>exact hq
section
variable {P:Program} {nt:Nat} {w0:cF} {h0:Hp} {C:Nat->List D->Option D}
def BD (w0:cF):Code->Prop
 | .region _ ops _=>U2 w0 ops
 | .seq a b=>BD w0 a ∧ BD w0 b
 | .cond _ a b=>BD w0 a ∧ BD w0 b
 | .block _ a=>BD w0 a
 | .loop a=>BD w0 a
 | _=>True
theorem BD.none (h:∀ t,w0.F t = none):∀ c,BD w0 c
 | .region _ ops _=>fun _ _ d _=>h d
 | .seq a b=>⟨BD.none h a,BD.none h b⟩
 | .cond _ a b=>⟨BD.none h a,BD.none h b⟩
 | .block _ a=>BD.none h a
 | .loop a=>BD.none h a
 | .skip=>trivial
 | .exit _=>trivial
 | .ret=>trivial
 | .goto _=>trivial
 | .label _=>trivial
 | .scope _=>trivial
 | .refuse _=>trivial
 | .rangeFunc _ _ _ _=>trivial
theorem aEt (hC:rW P C) (hm:P.follows .mixedOrders = true) (n:Nat):∀ (sc:aP) (c:Code) (s s' : St) (ex:Ex) (a:Act) (w:World) (h:Hp) (hd:Nat->Value) (Q:Exit->Act->World->Prop),
  BD w0 c->zP P nt c = some sc.bare->bH C n sc s = some (ex,s')->Rl nt w0 h0 s.get s.blk a w h hd->(∀ a' w' h' hd',Rl nt w0 h0 s'.get s'.blk a' w' h' hd'->Q ex.go a' w')->c.wp P Q a w:=by
 intro sc
 induction sc with
 | skip =>
  intro c s s' ex a w h hd Q hF hl he r hQ
  cases c <;> simp only [zP,aP.bare] at hl
  case skip=>simp only [bH,Ä,ú] at he; obtain ⟨rfl,rfl⟩:=he; exact wp_skip (hQ _ _ _ _ r)
  case region=>split at hl <;> first | (cases hl; done) | skip; split at hl <;> first | (cases hl; done) | skip; split at hl <;> cases hl
  case seq=>split at hl <;> cases hl
  case cond=>split at hl <;> cases hl
  case block=>rw [Á] at hl; obtain ⟨_,_,e⟩:=hl; cases e
  case loop=>rw [Á] at hl; obtain ⟨_,_,e⟩:=hl; cases e
  all_goals cases hl
 | region ops draw =>
  intro c s s' ex a w h hd Q hF hl he r hQ
  cases c <;> simp only [zP,aP.bare] at hl
  case region id rops dr =>
   split at hl
   ·cases hl
   ·rename_i l hlow
    simp only [bH] at he
    split at he
    ·rename_i s1 h1
     cases he
     split at hl
     ·rename_i hdr
      split at hl
      ·rename_i hok
       cases hl
       subst hdr
       exact WR hC hm hF hlow (draw:=true) (by simp [hok]) h1 r hQ
      ·cases hl
     ·rename_i hdr
      cases hl
      have:dr = false:=by simpa using hdr
      subst this
      exact WR hC hm hF hlow (draw:=false) (by simp) h1 r hQ
    ·cases he
  case seq=>split at hl <;> cases hl
  case cond=>split at hl <;> cases hl
  case block=>rw [Á] at hl; obtain ⟨_,_,e⟩:=hl; cases e
  case loop=>rw [Á] at hl; obtain ⟨_,_,e⟩:=hl; cases e
  all_goals cases hl
 | seq x y ihx ihy =>
  intro c s s' ex a w h hd Q hF hl he r hQ
  cases c <;> simp only [zP,aP.bare] at hl
  case region=>split at hl <;> first | (cases hl; done) | skip; split at hl <;> first | (cases hl; done) | skip; split at hl <;> cases hl
  case seq ca cb =>
   split at hl
   ·rename_i l1 l2 h1 h2
    cases hl
    refine wp_seq ?_
    simp only [bH] at he
    split at he
    ·rename_i s1 he1
     exact ihx ca s s1 .normal a w h hd _ hF.1 h1 he1 r fun a' w' h' hd' r'=>ihy cb s1 s' ex a' w' h' hd' Q hF.2 h2 he r' hQ
    ·rename_i hne
     refine ihx ca s s' ex a w h hd _ hF.1 h1 he r fun a' w' h' hd' r'=>?_
     cases ex with
     | normal=>exact absurd he (hne _)
     | exit id=>exact hQ _ _ _ _ r'
     | ret=>exact hQ _ _ _ _ r'
   ·cases hl
  case cond=>split at hl <;> cases hl
  case block=>rw [Á] at hl; obtain ⟨_,_,e⟩:=hl; cases e
  case loop=>rw [Á] at hl; obtain ⟨_,_,e⟩:=hl; cases e
  all_goals cases hl
 | cond c x y ihx ihy =>
  intro cc s s' ex a w h hd Q hF hl he r hQ
  cases cc <;> simp only [zP,aP.bare] at hl
  case region=>split at hl <;> first | (cases hl; done) | skip; split at hl <;> first | (cases hl; done) | skip; split at hl <;> cases hl
  case seq=>split at hl <;> cases hl
  case cond co ca cb =>
   split at hl
   ·rename_i l0 l1 l2 h1 h2 h3
    cases hl
    have hc:=bC r.globs r.frame h1
    simp only [bH] at he
    split at he
    ·rename_i hb
     rw [hb] at hc
     exact wp_cond_true (oA hc) (ihx ca s s' ex a w h hd Q hF.1 h2 he r hQ)
    ·rename_i hb
     rw [hb] at hc
     exact ĺ (oA hc) (ihy cb s s' ex a w h hd Q hF.2 h3 he r hQ)
    ·cases he
   ·cases hl
  case block=>rw [Á] at hl; obtain ⟨_,_,e⟩:=hl; cases e
  case loop=>rw [Á] at hl; obtain ⟨_,_,e⟩:=hl; cases e
  all_goals cases hl
 | block id x ih =>
  intro c s s' ex a w h hd Q hF hl he r hQ
  cases c <;> simp only [zP,aP.bare] at hl
  case region=>split at hl <;> first | (cases hl; done) | skip; split at hl <;> first | (cases hl; done) | skip; split at hl <;> cases hl
  case seq=>split at hl <;> cases hl
  case cond=>split at hl <;> cases hl
  case block id' ca =>
   rw [Á] at hl
   obtain ⟨l1,h1,e⟩:=hl
   cases e
   refine wp_block ?_
   simp only [bH] at he
   split at he
   ·rename_i id'' s1 he1
    refine ih ca s s1 (.exit id'') a w h hd _ hF h1 he1 r fun a' w' h' hd' r'=>?_
    simp only [Ex.go,Exit.inBlock]
    split at he
    ·rename_i hid
     cases he
     rw [Â hid]
     exact hQ _ _ _ _ r'
    ·rename_i hid
     cases he
     rw [Ã hid]
     exact hQ _ _ _ _ r'
   ·rename_i hne
    refine ih ca s s' ex a w h hd _ hF h1 he r fun a' w' h' hd' r'=>?_
    cases ex with
    | normal=>exact hQ _ _ _ _ r'
    | exit id=>exact absurd he (hne _ _)
    | ret=>exact hQ _ _ _ _ r'
  case loop=>rw [Á] at hl; obtain ⟨_,_,e⟩:=hl; cases e
  all_goals cases hl
 | loop x ih =>
  intro c s s' ex a w h hd Q hF hl he r hQ
  cases c <;> simp only [zP,aP.bare] at hl
  case region=>split at hl <;> first | (cases hl; done) | skip; split at hl <;> first | (cases hl; done) | skip; split at hl <;> cases hl
  case seq=>split at hl <;> cases hl
  case cond=>split at hl <;> cases hl
  case block=>rw [Á] at hl; obtain ⟨_,_,e⟩:=hl; cases e
  case loop ca =>
   rw [Á] at hl
   obtain ⟨l1,h1,e⟩:=hl
   cases e
   simp only [bH] at he
   refine aBq (fun k a w=>∃ s h hd,BH (bH C n x) k s = some (ex,s') ∧ Rl nt w0 h0 s.get s.blk a w h hd) (fun a w ⟨s,h,hd,q,_⟩=>by simp [BH] at q) ?_ n a w ⟨s,h,hd,he,r⟩
   rintro k a w ⟨s,h,hd,q,r⟩
   simp only [BH] at q
   split at q
   ·rename_i s1 he1
    exact ih ca s s1 .normal a w h hd _ hF h1 he1 r fun a' w' h' hd' r'=>⟨s1,h',hd',q,r'⟩
   ·rename_i hne
    refine ih ca s s' ex a w h hd _ hF h1 q r fun a' w' h' hd' r'=>?_
    cases ex with
    | normal=>exact absurd q (hne _)
    | exit id=>exact hQ _ _ _ _ r'
    | ret=>exact hQ _ _ _ _ r'
  all_goals cases hl
 | exit id =>
  intro c s s' ex a w h hd Q hF hl he r hQ
  cases c <;> simp only [zP,aP.bare] at hl
  case region=>split at hl <;> first | (cases hl; done) | skip; split at hl <;> first | (cases hl; done) | skip; split at hl <;> cases hl
  case seq=>split at hl <;> cases hl
  case cond=>split at hl <;> cases hl
  case block=>rw [Á] at hl; obtain ⟨_,_,e⟩:=hl; cases e
  case loop=>rw [Á] at hl; obtain ⟨_,_,e⟩:=hl; cases e
  case exit=>cases hl; simp only [bH,Ä,ú] at he; obtain ⟨rfl,rfl⟩:=he; exact wp_exit (hQ _ _ _ _ r)
  all_goals cases hl
 | ret =>
  intro c s s' ex a w h hd Q hF hl he r hQ
  cases c <;> simp only [zP,aP.bare] at hl
  case region=>split at hl <;> first | (cases hl; done) | skip; split at hl <;> first | (cases hl; done) | skip; split at hl <;> cases hl
  case seq=>split at hl <;> cases hl
  case cond=>split at hl <;> cases hl
  case block=>rw [Á] at hl; obtain ⟨_,_,e⟩:=hl; cases e
  case loop=>rw [Á] at hl; obtain ⟨_,_,e⟩:=hl; cases e
  case ret=>simp only [bH,Ä,ú] at he; obtain ⟨rfl,rfl⟩:=he; exact wp_ret (hQ _ _ _ _ r)
  all_goals cases hl
 | hand g =>
  intro c s s' ex a w h hd Q hF hl he r hQ
  cases c <;> simp only [zP,aP.bare] at hl
  case region=>split at hl <;> first | (cases hl; done) | skip; split at hl <;> first | (cases hl; done) | skip; split at hl <;> cases hl
  case seq=>split at hl <;> cases hl
  case cond=>split at hl <;> cases hl
  case block=>rw [Á] at hl; obtain ⟨_,_,e⟩:=hl; cases e
  case loop=>rw [Á] at hl; obtain ⟨_,_,e⟩:=hl; cases e
  all_goals cases hl
 | inl ops args dst f body res id slots ih =>
  intro c s s' ex a w h hd Q hF hl he r hQ
  cases c <;> simp only [zP,aP.bare] at hl
  case region=>split at hl <;> first | (cases hl; done) | skip; split at hl <;> first | (cases hl; done) | skip; split at hl <;> cases hl
  case seq=>split at hl <;> cases hl
  case cond=>split at hl <;> cases hl
  case block=>rw [Á] at hl; obtain ⟨_,_,e⟩:=hl; cases e
  case loop=>rw [Á] at hl; obtain ⟨_,_,e⟩:=hl; cases e
  all_goals cases hl
 | inlv ops x nc args dst f body res id slots ih =>
  intro c s s' ex a w h hd Q hF hl he r hQ
  cases c <;> simp only [zP,aP.bare] at hl
  case region=>split at hl <;> first | (cases hl; done) | skip; split at hl <;> first | (cases hl; done) | skip; split at hl <;> cases hl
  case seq=>split at hl <;> cases hl
  case cond=>split at hl <;> cases hl
  case block=>rw [Á] at hl; obtain ⟨_,_,e⟩:=hl; cases e
  case loop=>rw [Á] at hl; obtain ⟨_,_,e⟩:=hl; cases e
  all_goals cases hl
 | pre m x ih =>
  intro c s s' ex a w h hd Q hF hl he r hQ
  simp only [aP.bare] at hl
  simp only [bH] at he
  obtain ⟨h',hd',r'⟩:=JI r m
  exact ih c _ s' ex a w h' hd' Q hF hl he r' hQ
 | post x m ih =>
  intro c s s' ex a w h hd Q hF hl he r hQ
  simp only [aP.bare] at hl
  simp only [bH] at he
  split at he
  ·rename_i s1 he1
   cases he
   refine ih c s s1 .normal a w h hd Q hF hl he1 r fun a' w' h' hd' r'=>?_
   obtain ⟨h'',hd'',r''⟩:=JI r' m
   exact hQ _ _ _ _ r''
  ·rename_i hne
   exact ih c s s' ex a w h hd Q hF hl he r hQ
end
end Vm
end
section
namespace Vm
open Go.RowKit
def aLx:D->V
 | .tup _=>.any
 | x=>aOk x
def mZ:Nat->List D->List (Nat × V)
 | _,[]=>[]
 | i,d :: ds=>(i,aLx d) :: mZ (i + 1) ds
def aQX (bl:Nat->Option aO):V->List Nat
 | .own id ver=>match bl id with
  | some (.rows v _ _ _)=>if ver = v then [id] else []
  | _=>[]
 | .mp id=>match bl id with
  | some (.mp _ _)=>[id]
  | _=>[]
 | _=>[]
def aMS (bl:Nat->Option aO):V->List Nat
 | .agg cs=>cs.flatMap (aQX bl)
 | v=>aQX bl v
def QJ (bl:Nat->Option aO):V->List Nat
 | .tup vs=>vs.flatMap (aMS bl)
 | v=>aMS bl v
def aJ8:List Nat->Nat->Option Nat
 | [],_=>none
 | a :: l,x=>if a = x then some 0 else (aJ8 l x).map (· + 1)
def inN:List Nat->Nat->Bool
 | [],_=>false
 | a :: l,x=>if a = x then true else inN l x
def YT:List Nat->Bool
 | []=>true
 | a :: l=>if inN l a = true then false else YT l
def aHO (bl:Nat->Option aO) (ids:List Nat):V->Option D
 | .d x=>some x
 | .nil=>some (.sl [])
 | .own id ver=>match bl id with
  | some (.rows v _ _ _)=>if ver = v then (aJ8 ids id).map .ref else none
  | some (.froz v rows)=>if ver = v then some (.sl rows) else none
  | _=>none
 | .mp id=>match bl id with
  | some (.mp _ _)=>(aJ8 ids id).map .mref
  | some (.fmp ek m)=>some (.mp ek m)
  | _=>none
 | _=>none
def aFY (bl:Nat->Option aO) (ids:List Nat):V->Option D
 | .agg cs=>(aT (aHO bl ids) cs).map .agg
 | v=>aHO bl ids v
def toR (bl:Nat->Option aO) (ids:List Nat):V->Option D
 | .tup vs=>(aT (aFY bl ids) vs).map .tup
 | v=>aFY bl ids v
def aSQ (bl:Nat->Option aO) (id:Nat):Option (Nat × Nat):=match bl id with
 | some (.rows _ e size _)=>if size = 0 then none else some (e,size)
 | some (.mp ek _)=>some (ek,0)
 | _=>none
def aRF (bl:Nat->Option aO) (id:Nat):Option (List (List D)):=match bl id with
 | some (.rows _ _ _ rows)=>some rows
 | some (.mp _ m)=>some (aSd m)
 | _=>none
def xL (bl:Nat->Option aO) (v:V):Option D :=
 if YT (QJ bl v) = true then
  match toR bl (QJ bl v) v,aT (aSQ bl) (QJ bl v),aT (aRF bl) (QJ bl v) with
  | some x,some es,some rs=>some (.own x es rs)
  | _,_,_=>none
 else none
def GS (sf:bY) (s:St):Option D:=match aT (vD s) sf.results with
 | none=>none
 | some [v]=>if sf.fresh = true then xL s.blk v else iX s.blk v
 | some vs=>if sf.fresh = true then xL s.blk (.tup vs) else toD s.blk (.tup vs)
def ED (sf:bY) (s:St) (t:Nat):Option D:=match s.get t with
 | .own id ver=>match s.blk id with
  | some (.rows v e size rows)=>if ver = v then match aT (vD s) sf.results with
    | none=>none
    | some [u]=>match iX s.blk u with
     | some y=>if JR y = true then some (.own y [(e,size)] [rows]) else none
     | none=>none
    | some us=>match toD s.blk (.tup us) with
     | some y=>if JR y = true then some (.own y [(e,size)] [rows]) else none
     | none=>none
   else none
  | _=>none
 | _=>none
def LL (t:Nat) (ds:List D):St:=⟨(t,.own 900000 0) :: mZ 0 ds,match (ds[t]?).bind TC with
 | some (e,size,rows)=>[(900000,some (.rows 0 e size rows))]
 | none=>[]⟩
def F6 (t:Nat):aP->Bool
 | .region ops _=>ops.all fun o=>match o.dst with
  | some d=>d != t
  | none=>true
 | .seq a b=>F6 t a && F6 t b
 | .cond _ a b=>F6 t a && F6 t b
 | .block _ a=>F6 t a
 | .loop a=>F6 t a
 | .pre _ a=>F6 t a
 | .post a _=>F6 t a
 | _=>true
inductive Def where
 | code (sf:bY)
 | told (o:List D->Option D)
 /-- told,and lent a slice -/
 | toldL (o:List D->Option D)
abbrev wF:=Nat->Option Def
def j9 (T:wF):Nat->Nat->List D->Option D
 | 0,_,_=>none
 | n + 1,f,args=>match T f with
  | none=>none
  | some (.told o)=>if kG 0 args = none then o args else none
  | some (.toldL o)=>if (kG 0 args).isSome = true then o args else none
  | some (.code sf)=>if args.length = sf.np then match kG 0 args with
    | none=>match bH (j9 T n) n sf.body ⟨mZ 0 args,[]⟩ with
     | some (.normal,s)=>GS sf s
     | some (.ret,s)=>GS sf s
     | _=>none
    | some t=>if sf.lend = true ∧ F6 t sf.body = true then match bH (j9 T n) n sf.body (LL t args) with
      | some (.normal,s)=>ED sf s t
      | some (.ret,s)=>ED sf s t
      | _=>none
     else none
   else none
theorem MI:∀ (l:List D) (i t:Nat),lk (mZ i l) .any t = if i <= t then (match l[t - i]? with | some d=>aLx d | none=>.any) else .any
 | [],i,t=>by simp [mZ,lk]
 | d :: l,i,t=>by
  simp only [mZ,lk,MI l (i + 1) t]
  by_cases e:t = i
  ·subst e; simp
  ·rw [Ã e]
   by_cases h:i + 1 <= t
   ·rw [Â h,Â (by omega)]
    have:t - i = (t - (i + 1)) + 1:=by omega
    rw [this,é]
   ·rw [Ã h,Ã (by omega)]
section
variable {P:Program}
theorem aEF {h:Hp} {hd:Nat->Value} {bl:Nat->Option aO} {v:Value} {d:D} (r:a6 h v d):R3 h hd bl v (aLx d):=by
 cases d with
 | tup vs=>trivial
 | agg cs=>exact R3.of2 (AK r (fun vs e=>by cases e))
 | int k n=>exact R3.of2 (AK r (fun vs e=>by cases e))
 | bool b=>exact R3.of2 (AK r (fun vs e=>by cases e))
 | str s=>exact R3.of2 (AK r (fun vs e=>by cases e))
 | sl rows=>exact R3.of2 (AK r (fun vs e=>by cases e))
 | ptr row off=>exact R3.of2 (AK r (fun vs e=>by cases e))
 | fn f caps=>exact R3.of2 (AK r (fun vs e=>by cases e))
 | np=>exact R3.of2 (AK r (fun vs e=>by cases e))
 | mp ek m=>exact R3.of2 (AK r (fun vs e=>by cases e))
 | ref n=>cases r
 | mref n=>cases r
 | own x es rs=>cases r
theorem xP {nt:Nat} {w0:cF} {w:World} {h0 h:Hp} {s:St} {a:Act} {hd:Nat->Value} (r:Rl nt w0 h0 s.get s.blk a w h hd):∀ (l:List ResultVar) (rs:List kT) (vs:List V),aT (RT P) l = some rs->aT (vD s) rs = some vs ->
  ∃ cvs:List Value,(l.mapM fun x=>(match x with | .tmp t=>pure (a.tmps.getD t undef) | .cell b t=>do loadVar t (← asAddr (a.tmps.getD b undef)):Sem Value)).run P w = .ok cvs w ∧ cvs.length = vs.length ∧ ∀ (j:Nat) (x:V),vs[j]? = some x->R3 h hd s.blk (cvs.getD j undef) x
 | [],rs,vs,h1,h2=>by
  simp only [aT,Ä] at h1
  subst h1
  simp only [aT,Ä] at h2
  subst h2
  exact ⟨[],by simp,rfl,fun j x hx=>by simp at hx⟩
 | x :: l,rs,vs,h1,h2=>by
  simp only [aT] at h1
  split at h1
  ·cases h1
  ·rename_i y hy
   split at h1
   ·cases h1
   ·rename_i ys hys
    cases h1
    simp only [aT] at h2
    split at h2
    ·cases h2
    ·rename_i v hv
     split at h2
     ·cases h2
     ·rename_i us hus
      cases h2
      obtain ⟨cvs,g1,g2,g3⟩:=xP r l ys us hys hus
      have hone:∃ cv,((match x with | .tmp t=>pure (a.tmps.getD t undef) | .cell b t=>do loadVar t (← asAddr (a.tmps.getD b undef)):Sem Value)).run P w = .ok cv w ∧ R3 h hd s.blk cv v:=by
       cases x with
       | tmp t =>
        simp only [RT,Ä] at hy
        subst hy
        simp only [vD,Ä] at hv
        subst hv
        exact ⟨_,rfl,r.frame t⟩
       | cell b t =>
        simp only [RT] at hy
        split at hy
        ·rename_i ag i hag hi
         cases hy
         simp only [vD] at hv
         split at hv
         ·rename_i v' wr hload
          cases hv
          have:=aEs (P:=P) (C:=fun _ _=>none) (site:=0) (x:=.t b) (xv:=a.tmps.getD b undef) r hag hi (r.frame b) (v:=v) (wr:=wr) (by simpa [cE,bN] using hload)
          obtain ⟨_,cv,q1,q2⟩:=this
          refine ⟨cv,?_,q2⟩
          cases hp:a.tmps.getD b undef <;> rw [hp] at q1 <;> first | (simp [Instr.loadAt,Instr.sureAddr] at q1; done) | skip
          rename_i ao
          cases ao with
          | none=>simp [Instr.loadAt,Instr.sureAddr] at q1
          | some ad =>
           have hp' : a.tmps[b]?.getD undef = .pointer (some ad):=by simpa using hp
           simpa [Instr.loadAt,Instr.sureAddr,asAddr,hp'] using q1
         ·cases hv
        ·cases hy
      obtain ⟨cv,q1,q2⟩:=hone
      refine ⟨cv :: cvs,?_,by simp [g2],fun j z hz=>?_⟩
      ·rw [List.mapM_cons]
       simp only [î,q1,ñ,g1,ĕ]
      ·cases j with
       | zero=>simp at hz; subst hz; simpa using q2
       | succ j=>simpa using g3 j z (by simpa using hz)
theorem a6.toF {base:cF} {w:World} {h:Hp} {v:Value} {x:D} (r:a6 h v x):AB base w h v x:=by
 cases x <;> first | exact r | (cases r; done)
theorem aC7 {bl:Nat->Option aO} {vs:List V} {x:D} (e:xL bl (.tup vs) = some x) {j:Nat} {z:V} (hz:vs[j]? = some z):∃ y,aFY bl (QJ bl (.tup vs)) z = some y:=by
 unfold xL at e
 split at e
 ·split at e
  ·rename_i y es rs hy hes hrs
   simp only [toR,Á] at hy
   obtain ⟨ds,hm,_⟩:=hy
   obtain ⟨y,_,h2⟩:=(bP hm).2 j z hz
   exact ⟨y,h2⟩
  ·cases e
 ·cases e
theorem P7:∀ {l:List Nat} {x n:Nat},aJ8 l x = some n->l[n]? = some x
 | [],x,n,e=>by cases e
 | a :: l,x,n,e=>by
  simp only [aJ8] at e
  split at e
  ·rename_i hx; cases e; simp [hx]
  ·rw [Á] at e
   obtain ⟨m,h1,rfl⟩:=e
   simpa using P7 h1
theorem QN:∀ {l:List Nat} {x:Nat},inN l x = false->∀ n:Nat,l[n]? ≠ some x
 | [],x,_,n=>by simp
 | a :: l,x,e,n=>by
  simp only [inN] at e
  split at e
  ·cases e
  ·rename_i hx
   cases n with
   | zero=>simpa using hx
   | succ n=>simpa using QN e n
theorem TY:∀ {l:List Nat},YT l = true->∀ {n m x:Nat},l[n]? = some x->l[m]? = some x->n = m
 | [],_,n,m,x,h1,h2=>by simp at h1
 | a :: l,e,n,m,x,h1,h2=>by
  simp only [YT] at e
  split at e
  ·cases e
  ·rename_i hx
   have hx:inN l a = false:=by simpa using hx
   cases n with
   | zero=>cases m with
    | zero=>rfl
    | succ m=>simp at h1 h2; subst h1; exact absurd h2 (QN hx m)
   | succ n=>cases m with
    | zero=>simp at h1 h2; subst h2; exact absurd h1 (QN hx n)
    | succ m=>simp at h1 h2; rw [TY e h1 h2]
theorem aMr {site n m:Nat} (e:E3 site n = E3 site m):n = m:=by unfold E3 at e; omega
theorem aFp (site n:Nat):(E3 site n - site) / 100000 - 1 = n:=by
 unfold E3
 rw [ı,Nat.mul_div_cancel_left _ (by decide)]
 omega
theorem UH (site:Nat):∀ (es:List (Nat × Nat)) (rs:List (List (List D))) (k n:Nat) (e size:Nat) (rows:List (List D)),es[n]? = some (e,size)->rs[n]? = some rows->lk (gY site k es rs) none (E3 site (k + n)) = some (B7 e size rows)
 | [],rs,k,n,e,size,rows,h1,h2=>by simp at h1
 | p :: es,[],k,n,e,size,rows,h1,h2=>by simp at h2
 | (e',s') :: es,r :: rs,k,n,e,size,rows,h1,h2=>by
  simp only [gY,lk]
  cases n with
  | zero=>simp at h1 h2; simp [h1,h2]
  | succ n =>
   rw [Ã (fun q=>by have:=aMr q; omega),show k + (n + 1) = (k + 1) + n by omega]
   exact UH site es rs (k + 1) n e size rows (by simpa using h1) (by simpa using h2)
theorem G4 (site:Nat):∀ (es:List (Nat × Nat)) (rs:List (List (List D))) (k id:Nat) (b:aO),lk (gY site k es rs) none id = some b->∃ n e size rows,id = E3 site (k + n) ∧ es[n]? = some (e,size) ∧ rs[n]? = some rows ∧ b = B7 e size rows
 | [],rs,k,id,b,h=>by simp [gY,lk] at h
 | p :: es,[],k,id,b,h=>by simp [gY,lk] at h
 | (e',s') :: es,r :: rs,k,id,b,h=>by
  simp only [gY,lk] at h
  split at h
  ·rename_i hi
   cases h
   exact ⟨0,e',s',r,hi,rfl,rfl,rfl⟩
  ·obtain ⟨n,e,size,rows,h1,h2,h3,h4⟩:=G4 site es rs (k + 1) id b h
   exact ⟨n + 1,e,size,rows,by rw [h1,show k + 1 + n = k + (n + 1) by omega],by simpa using h2,by simpa using h3,h4⟩
theorem aFa:∀ m:List (Int × ML),aRQ (aSd m) = m
 | []=>rfl
 | (k,v) :: r=>by
  have:=aFa r
  unfold aRQ aSd at *
  rw [á,á,this]
  cases v <;> rfl
def FS:aO->Option aO
 | .rows _ e size rows=>if size = 0 then none else some (.rows 0 e size rows)
 | .mp ek m=>some (.mp ek m)
 | _=>none
theorem WN {bl:Nat->Option aO} {id e size:Nat} {rows:List (List D)} (h:aSQ bl id = some (e,size)) (h2:aRF bl id = some rows):∃ b,bl id = some b ∧ FS b = some (B7 e size rows):=by
 unfold aSQ at h
 unfold aRF at h2
 cases hb:bl id with
 | none=>rw [hb] at h; cases h
 | some b =>
  rw [hb] at h h2
  refine ⟨b,rfl,?_⟩
  cases b <;> simp only at h h2 <;> first | (cases h; done) | skip
  ·split at h
   ·cases h
   ·rename_i hs
    cases h
    cases h2
    simp only [FS,B7,Ã hs]
  ·cases h
   cases h2
   simp only [FS,B7,Ë,aFa]
section
variable {nt:Nat} {w0:cF} {w:World} {h0 h:Hp} {fr:Nat->V} {bl:Nat->Option aO} {a:Act} {hd hd0:Nat->Value} {nb:Nat->Option aO} {ids:List Nat} {site:Nat}
theorem aED (r:Rl nt w0 h0 fr bl a w h hd) (hnew:∀ n id b b',ids[n]? = some id->bl id = some b->FS b = some b'->nb (E3 site n) = some b') (hhd:∀ n id,ids[n]? = some id->hd0 (E3 site n) = hd id)
  {u:Value} {z:V} (hu:R1 h hd bl u z) {d:D} (e:aHO bl ids z = some d):R1 h hd0 nb u (aAY site d) ∧ d.atom = true:=by
 cases z with
 | d x =>
  cases e
  obtain ⟨g1,g2⟩:=hu
  refine ⟨?_,g1⟩
  cases d <;> first | exact ⟨g1,g2⟩ | (cases g2; done)
 | nil =>
  cases e
  exact ⟨⟨rfl,by rw [show u = _ from hu]; exact .sl0 none 0 (fun _=>rfl)⟩,rfl⟩
 | own id ver =>
  obtain ⟨b,c,hb,hc,hle,h1,he⟩:=hu
  simp only [aHO,hb] at e
  cases b with
  | rows v e' s rows =>
   simp only at e
   split at e
   ·rename_i hv
    rw [Á] at e
    obtain ⟨n,hn,rfl⟩:=e
    have hi:=P7 hn
    have hs:¬ s = 0:=by have:=(r.blk id _ hb).1; omega
    refine ⟨⟨_,0,hnew n id _ (.rows 0 e' s rows) hi hb (by simp only [FS,Ã hs]),rfl,Õ _,h1,fun _=>?_⟩,rfl⟩
    rw [hhd n id hi]
    exact he (by simp only [aO.ver?,Ä] at hc; omega)
   ·cases e
  | froz v rows =>
   simp only at e
   split at e
   ·rename_i hv
    cases e
    refine ⟨⟨rfl,?_⟩,rfl⟩
    rw [he (by simp only [aO.ver?,Ä] at hc; omega)]
    exact r.blk id _ hb
   ·cases e
  | _=>cases e
 | mp id =>
  obtain ⟨⟨b,hb,hbx⟩,rfl,g,hg⟩:=hu
  simp only [aHO,hb] at e
  cases b with
  | mp ek m =>
   simp only at e
   rw [Á] at e
   obtain ⟨n,hn,rfl⟩:=e
   have hi:=P7 hn
   exact ⟨⟨⟨_,hnew n id _ (.mp ek m) hi hb rfl,rfl⟩,(hhd n id hi).symm,g,(hhd n id hi).trans hg⟩,rfl⟩
  | fmp ek m =>
   simp only [Ä] at e
   subst e
   exact ⟨⟨rfl,r.blk id _ hb⟩,rfl⟩
  | _=>cases e
 | _=>cases e
theorem aEY (r:Rl nt w0 h0 fr bl a w h hd) (hnew:∀ n id b b',ids[n]? = some id->bl id = some b->FS b = some b'->nb (E3 site n) = some b') (hhd:∀ n id,ids[n]? = some id->hd0 (E3 site n) = hd id)
  {u:Value} {z:V} (hu:R2 h hd bl u z) {d:D} (e:aFY bl ids z = some d):R2 h hd0 nb u (WW site d) ∧ d.noTup = true:=by
 have one:R1 h hd bl u z->aHO bl ids z = some d->R2 h hd0 nb u (WW site d) ∧ d.noTup = true:=fun q1 q2=>by
  obtain ⟨g1,g2⟩:=aED r hnew hhd q1 q2
  cases d <;> first | (cases g2; done) | exact ⟨R2.of1 g1,rfl⟩
 cases z with
 | agg cs =>
  obtain ⟨arr,rfl,hl,hc⟩:=hu
  simp only [aFY,Á] at e
  obtain ⟨ds,hm,rfl⟩:=e
  obtain ⟨m1,m2⟩:=bP hm
  refine ⟨⟨arr,rfl,by simp; omega,fun j x hx=>?_⟩,rfl⟩
  rw [Ç,Á] at hx
  obtain ⟨y,hy,rfl⟩:=hx
  obtain ⟨z,z1,z2⟩:=bU hm hy
  exact ⟨(aED r hnew hhd (hc j z z1).1 z2).1,(hc j z z1).2⟩
 | _=>exact one hu e
theorem aRU (r:Rl nt w0 h0 fr bl a w h hd) (hnew:∀ n id b b',ids[n]? = some id->bl id = some b->FS b = some b'->nb (E3 site n) = some b') (hhd:∀ n id,ids[n]? = some id->hd0 (E3 site n) = hd id)
  {u:Value} {z:V} (hu:R3 h hd bl u z) {d:D} (e:toR bl ids z = some d):R3 h hd0 nb u (thaw site d):=by
 have one:R2 h hd bl u z->aFY bl ids z = some d->R3 h hd0 nb u (thaw site d):=fun q1 q2=>by
  obtain ⟨g1,g2⟩:=aEY r hnew hhd q1 q2
  cases d <;> first | (cases g2; done) | exact R3.of2 g1
 cases z with
 | tup vs =>
  obtain ⟨arr,rfl,hl,hc⟩:=hu
  simp only [toR,Á] at e
  obtain ⟨ds,hm,rfl⟩:=e
  obtain ⟨m1,m2⟩:=bP hm
  refine ⟨arr,rfl,by simp; omega,fun j x hx=>?_⟩
  rw [Ç,Á] at hx
  obtain ⟨y,hy,rfl⟩:=hx
  obtain ⟨z,z1,z2⟩:=bU hm hy
  exact (aEY r hnew hhd (hc j z z1) z2).1
 | _=>exact one hu e
theorem Z7 (r:Rl nt w0 h0 fr bl a w h hd) {cv:Value} {v:V} (hv:R3 h hd bl cv v) {x:D} (e:xL bl v = some x):AB w0 w h cv x:=by
 unfold xL at e
 split at e
 ·rename_i hnd
  split at e
  ·rename_i y es rs hy hes hrs
   cases e
   intro site
   generalize hids:QJ bl v = ids at hnd hy hes hrs
   have hhd:∀ n id,ids[n]? = some id->(fun i=>hd (ids.getD ((i - site) / 100000 - 1) 0)) (E3 site n) = hd id:=fun n id hn=>by
    simp only [aFp,ä,hn,è]
   have hE:=bP hes
   have hR:=bP hrs
   have hnew:∀ n id b b',ids[n]? = some id->bl id = some b->FS b = some b'->R4 site es rs (E3 site n) = some b':=fun n id b b' hn hb hg=>by
    obtain ⟨⟨e1,s1⟩,g1,g2⟩:=hE.2 n id hn
    obtain ⟨rows1,g3,g4⟩:=hR.2 n id hn
    obtain ⟨b0,q1,q2⟩:=WN g2 g4
    rw [hb] at q1
    cases q1
    rw [hg] at q2
    cases q2
    have:=UH site es rs 0 n e1 s1 rows1 g1 g3
    rw [Ċ] at this
    exact this
   have hback:∀ i b,R4 site es rs i = some b->∃ n id b0,i = E3 site n ∧ ids[n]? = some id ∧ bl id = some b0 ∧ FS b0 = some b:=fun i b hb=>by
    obtain ⟨n,e,size,rows,h1,h2,h3,h4⟩:=G4 site es rs 0 i b hb
    obtain ⟨id,g1,g2⟩:=bU hes h2
    obtain ⟨y2,g4,g5⟩:=hR.2 n id g1
    rw [h3] at g4
    cases g4
    obtain ⟨b0,q1,q2⟩:=WN g2 g5
    exact ⟨n,id,b0,by rw [h1,Ċ],g1,q1,by rw [q2,h4]⟩
   have hlv:∀ b0 b:aO,FS b0 = some b->b0.live = true:=fun b0 b hg=>by
    cases b0 <;> first | rfl | (simp [FS] at hg)
   refine ⟨fun i=>hd (ids.getD ((i - site) / 100000 - 1) 0),aRU r hnew hhd hv hy,fun i b hb=>?_,fun i j bi bj g hi hj gi gj=>?_⟩
   ·obtain ⟨n,id,b0,rfl,h2,h3,h4⟩:=hback i b hb
    have hb':=r.blk id _ h3
    have hh:=hhd n id h2
    cases b0 with
    | rows ver e size rows =>
     simp only [FS] at h4
     split at h4
     ·cases h4
     ·cases h4
      obtain ⟨k1,k2,⟨xs,k3,k4⟩,k5⟩:=hb'
      exact ⟨k1,k2,⟨xs,by rw [hh]; exact k3,k4⟩,by rw [hh]; exact k5⟩
    | mp ek m =>
     simp only [FS,Ä] at h4
     subst h4
     obtain ⟨g,k1,k2⟩:=hb'
     exact ⟨g,hh.trans k1,k2⟩
    | _=>cases h4
   ·obtain ⟨n,id,b0,rfl,h2,h3,h4⟩:=hback i bi hi
    obtain ⟨m,id',b0',rfl,h2',h3',h4'⟩:=hback j bj hj
    rw [hhd n id h2] at gi
    rw [hhd m id' h2'] at gj
    have:=r.sep id id' _ _ g h3 h3' (hlv _ _ h4) (hlv _ _ h4') gi gj
    subst this
    rw [TY hnd h2 h2']
  ·cases e
 ·cases e
end
def aK (P:Program) (nt:Nat) (c:Code) (sc:aP):Prop:=∀ (C:Nat->List D->Option D),rW P C->∀ (n:Nat) (w0:cF) (h0:Hp) (s s' : St) (ex:Ex) (a:Act) (w:World) (h:Hp) (hd:Nat->Value) (Q:Exit->Act->World->Prop),
 (∀ t,w0.F t = none)->bH C n sc s = some (ex,s')->Rl nt w0 h0 s.get s.blk a w h hd->(∀ a' w' h' hd',Rl nt w0 h0 s'.get s'.blk a' w' h' hd'->Q ex.go a' w')->c.wp P Q a w
def cF.re (b:cF) (w:World) (X:Nat->Prop) (F:Nat->Option Value) (O:Nat->Nat->Value) (M:List Deferred):cF:={ w with L:=fun g=>b.own g ∧ ¬ X g ∧ g < w.heap.size,F:=F,O:=O,M:=M }
section
variable {P:Program} {nt:Nat} {w0:cF} {w w' w2:World} {h0 h h' : Hp} {fr fr' : Nat->V} {bl bl' : Nat->Option aO} {a a' : Act} {hd hd' : Nat->Value} {X:Nat->Prop} {F:Nat->Option Value} {O:Nat->Nat->Value} {M:List Deferred}
theorem aBU (hs:w0.heap.size <= w.heap.size) {g:Nat} (h:(w0.re w X F O M).own g):w0.own g:=by
 rcases h with h | h
 ·exact .inl (ó hs h)
 ·exact h.1
theorem aB6 {g:Nat} (h:w0.own g) (hx:¬ X g):(w0.re w X F O M).own g:=by
 by_cases hg:w.heap.size <= g
 ·exact .inl hg
 ·exact .inr ⟨h,hx,by omega⟩
theorem Rl.re (r:Rl nt w0 h0 fr bl a w h hd) {row:Option Nat} (hg:w.grownBy w2 row) (hr:∀ g,row = some g->h g = none ∧ X g) (hX:∀ g,X g->∀ id b,bl id = some b->b.live = true->e9 (hd id) ≠ some g)
  (hO:∀ id cs,bl id = some (.outer cs)->O id = w0.O id) (hF:∀ t v,F t = some v->a.tmps.getD t undef = v) (hM:a.defers = M):Rl nt (w0.re w2 X F O M) h fr bl a w2 h hd where
 tmps:=r.tmps
 defers:=hM
 fixed:=hF
 below:=CX.refl _ _
 hle:=fun b o e=>by
  have h1:=r.hle b o e
  refine (hg.block b (Ï.1 h1).1 fun q=>?_).trans h1
  rw [(hr b q.symm).1] at e; cases e
 h0le:=Hp.le.refl _
 glob:=r.globs
 hbase:=fun _ _=>rfl
 frame:=r.frame
 blk:=fun id b hb=>by
  have rb:=r.blk id b hb
  have hkeep:BR w0 w2 h hd bl id b:=rb.keep (Hp.le.refl _) (Kp.refl _ _) rfl fun hl g hg'=>⟨hg.block g (rb.num hl hg').2.1 fun q=>hX g (hr g q.symm).2 id b hb hl hg',fun q=>q⟩
  cases b with
  | box cs =>
   obtain ⟨g,arr,e,h1,h2,h3⟩:=hkeep
   exact ⟨g,arr,e,h1,aB6 h2 (fun q=>hX g q id _ hb rfl (by rw [h1]; rfl)),h3⟩
  | rows ver e size rows =>
   obtain ⟨h1,h2,h3,h4⟩:=hkeep
   exact ⟨h1,h2,h3,fun g hg=>⟨(h4 g hg).1,aB6 (h4 g hg).2 (fun q=>hX g q id _ hb rfl hg)⟩⟩
  | froz ver rows=>exact hkeep
  | fbox cs=>exact hkeep
  | mp ek m =>
   obtain ⟨g,h1,h2,h3⟩:=hkeep
   exact ⟨g,h1,aB6 h2 (fun q=>hX g q id _ hb rfl (by rw [h1]; rfl)),h3⟩
  | fmp ek m=>exact hkeep
  | outer cs =>
   intro j x hx
   show R3 h hd bl (O id j) x
   rw [hO id cs hb]
   exact hkeep j x hx
 sep:=r.sep
end
def aSr (D:Nat):Deferred:={ target:=.collected D,args:=#[] }
def shut (Ds:List Nat) (w:World):World:=Ds.foldl (fun w D=>w.putObj D (.deferred none)) w
structure F2 (w0:cF) (h0:Hp) (b:cF) (hb:Hp):Prop where
 bel:CX w0 w0.toWorld b.toWorld
 le:h0.le hb
 base:∀ g,¬ w0.own g->hb g = h0 g
 own:∀ g,b.own g->w0.own g
structure N4 (w0 b:cF) (hb:Hp) (Ds:List Nat):Prop where
 F:∀ t,b.F t = none
 M:b.M = Ds.map aSr ++ w0.M
 nodup:Ds.Nodup
 here:∀ D ∈ Ds,w0.own D ∧ ¬ b.own D ∧ b.heap[D]? = some (.deferred (some [])) ∧ hb D = none
theorem F2.refl (w0:cF) (h0:Hp):F2 w0 h0 w0 h0:=⟨CX.refl _ _,Hp.le.refl _,fun _ _=>rfl,fun _ h=>h⟩
theorem N4.refl {w0:cF} {h0:Hp} (hF:∀ t,w0.F t = none):N4 w0 w0 h0 []:=⟨hF,rfl,List.Pairwise.nil,fun _ h=>by cases h⟩
theorem F2.trans {w0 b b2:cF} {h0 hb hb2:Hp} (u:F2 w0 h0 b hb) (v:F2 b hb b2 hb2):F2 w0 h0 b2 hb2 :=
 ⟨u.bel.trans ⟨v.bel.os,v.bel.tape,v.bel.output,v.bel.size,fun k hk=>v.bel.block k fun q=>hk (u.own k q)⟩,u.le.trans v.le,fun g hg=>(v.base g fun q=>hg (u.own g q)).trans (u.base g hg),fun g hg=>u.own g (v.own g hg)⟩
theorem N4.trans {w0 b b2:cF} {h0 hb hb2:Hp} {Ds Es:List Nat} (u:F2 w0 h0 b hb) (v:F2 b hb b2 hb2) (m:N4 w0 b hb Ds) (n:N4 b b2 hb2 Es):N4 w0 b2 hb2 (Es ++ Ds) where
 F:=n.F
 M:=by rw [n.M,m.M,Ă,ç]
 nodup:=List.nodup_append.2 ⟨n.nodup,m.nodup,fun x hx y hy e=>(m.here y hy).2.1 (e ▸ (n.here x hx).1)⟩
 here:=fun D hD=>by
  rcases Ó.1 hD with q | q
  ·obtain ⟨h1,h2,h3,h4⟩:=n.here D q
   exact ⟨u.own D h1,h2,h3,h4⟩
  ·obtain ⟨h1,h2,h3,h4⟩:=m.here D q
   exact ⟨h1,fun z=>h2 (v.own D z),(v.bel.block D h2).trans h3,(v.base D h2).trans h4⟩
def pU (P:Program) (nt:Nat) (c:Code) (sc:aP):Prop:=∀ (C:Nat->List D->Option D),rW P C->∀ (n:Nat) (w0:cF) (h0:Hp) (s s' : St) (ex:Ex) (a:Act) (w:World) (h:Hp) (hd:Nat->Value) (Q:Exit->Act->World->Prop),
 (∀ t,w0.F t = none)->bH C n sc s = some (ex,s')->Rl nt w0 h0 s.get s.blk a w h hd->(∀ b hb Ds a' w' h' hd',F2 w0 h0 b hb->N4 w0 b hb Ds->Rl nt b hb s'.get s'.blk a' w' h' hd'->Q ex.go a' w')->c.wp P Q a w
theorem aK.to {nt:Nat} {c:Code} {sc:aP} (h:aK P nt c sc):pU P nt c sc :=
 fun C hC n w0 h0 s s' ex a w h' hd Q hF he r hQ=>h C hC n w0 h0 s s' ex a w h' hd Q hF he r fun a' w' h' hd' r'=>hQ w0 h0 [] a' w' h' hd' (F2.refl _ _) (N4.refl hF) r'
theorem pU.seq {nt:Nat} {c d:Code} {x y:aP} (h1:pU P nt c x) (h2:pU P nt d y):pU P nt (.seq c d) (.seq x y):=by
 intro C hC n w0 h0 s s' ex a w h hd Q hF he r hQ
 refine wp_seq ?_
 simp only [bH] at he
 split at he
 ·rename_i s1 he1
  exact h1 C hC n w0 h0 s s1 .normal a w h hd _ hF he1 r fun b hb Ds a' w' h' hd' u m r'=>h2 C hC n b hb s1 s' ex a' w' h' hd' Q m.F he r' fun b2 hb2 Es a'' w'' h'' hd'' v k r''=>hQ b2 hb2 (Es ++ Ds) a'' w'' h'' hd'' (u.trans v) (N4.trans u v m k) r''
 ·rename_i hne
  refine h1 C hC n w0 h0 s s' ex a w h hd _ hF he r fun b hb Ds a' w' h' hd' u m r'=>?_
  cases ex with
  | normal=>exact absurd he (hne _)
  | exit id=>exact hQ _ _ _ _ _ _ _ u m r'
  | ret=>exact hQ _ _ _ _ _ _ _ u m r'
theorem pU.pre {nt:Nat} {c:Code} {x:aP} (m:xF) (h1:pU P nt c x):pU P nt c (.pre m x):=by
 intro C hC n w0 h0 s s' ex a w h hd Q hF he r hQ
 simp only [bH] at he
 obtain ⟨h',hd',r'⟩:=JI r m
 exact h1 C hC n w0 h0 _ s' ex a w h' hd' Q hF he r' hQ
theorem pU.post {nt:Nat} {c:Code} {x:aP} (m:xF) (h1:pU P nt c x):pU P nt c (.post x m):=by
 intro C hC n w0 h0 s s' ex a w h hd Q hF he r hQ
 simp only [bH] at he
 split at he
 ·rename_i s1 he1
  cases he
  refine h1 C hC n w0 h0 s s1 .normal a w h hd Q hF he1 r fun b hb Ds a' w' h' hd' u k r'=>?_
  obtain ⟨h'',hd'',r''⟩:=JI r' m
  exact hQ _ _ _ _ _ _ _ u k r''
 ·rename_i hne
  exact h1 C hC n w0 h0 s s' ex a w h hd Q hF he r hQ
theorem pU.block {nt:Nat} {c:Code} {x:aP} {id:Nat} (h1:pU P nt c x):pU P nt (.block id c) (.block id x):=by
 intro C hC n w0 h0 s s' ex a w h hd Q hF he r hQ
 refine wp_block ?_
 simp only [bH] at he
 split at he
 ·rename_i id'' s1 he1
  refine h1 C hC n w0 h0 s s1 (.exit id'') a w h hd _ hF he1 r fun b hb Ds a' w' h' hd' u m r'=>?_
  simp only [Ex.go,Exit.inBlock]
  split at he
  ·rename_i hid
   cases he
   rw [Â hid]
   exact hQ _ _ _ _ _ _ _ u m r'
  ·rename_i hid
   cases he
   rw [Ã hid]
   exact hQ _ _ _ _ _ _ _ u m r'
 ·rename_i hne
  refine h1 C hC n w0 h0 s s' ex a w h hd _ hF he r fun b hb Ds a' w' h' hd' u m r'=>?_
  cases ex with
  | normal=>exact hQ _ _ _ _ _ _ _ u m r'
  | exit id=>exact absurd he (hne _ _)
  | ret=>exact hQ _ _ _ _ _ _ _ u m r'
theorem pU.cond {nt:Nat} {co:Operand} {l:bO} {c d:Code} {x y:aP} (hl:iA co = some l) (h1:pU P nt c x) (h2:pU P nt d y):pU P nt (.cond co c d) (.cond l x y):=by
 intro C hC n w0 h0 s s' ex a w h hd Q hF he r hQ
 have hc:=bC r.globs r.frame hl
 simp only [bH] at he
 split at he
 ·rename_i hb
  rw [hb] at hc
  exact wp_cond_true (oA hc) (h1 C hC n w0 h0 s s' ex a w h hd Q hF he r hQ)
 ·rename_i hb
  rw [hb] at hc
  exact ĺ (oA hc) (h2 C hC n w0 h0 s s' ex a w h hd Q hF he r hQ)
 ·cases he
theorem Rl.un {nt:Nat} {w0 b:cF} {w:World} {h0 hb h:Hp} {fr:Nat->V} {bl:Nat->Option aO} {a:Act} {hd:Nat->Value} (r:Rl nt b hb fr bl a w h hd) (u:F2 w0 h0 b hb):CX w0 w0.toWorld w ∧ h0.le h ∧ ∀ g,¬ w0.own g->h g = h0 g :=
 ⟨u.bel.trans ⟨r.below.os,r.below.tape,r.below.output,r.below.size,fun k hk=>r.below.block k fun q=>hk (u.own k q)⟩,u.le.trans r.h0le,fun g hg=>(r.hbase g fun q=>hg (u.own g q)).trans (u.base g hg)⟩
theorem AB.within {b0 b1:cF} (hle:∀ g,b1.own g->b0.own g) {w:World} {h:Hp} {v:Value} {x:D} (r:AB b1 w h v x):AB b0 w h v x:=by
 cases x with
 | own y es rs =>
  intro site
  obtain ⟨hd0,h1,h2,h3⟩:=r site
  refine ⟨hd0,h1,fun id b hb=>?_,h3⟩
  refine BR.base hle (.inl ?_) (h2 id b hb)
  obtain ⟨_,_,_,_,_,_,_,q⟩:=G4 site es rs 0 id b (by
   have hb':=hb
   unfold R4 bQ at hb'
   exact hb')
  rw [q]
  unfold B7
  split <;> rfl
 | _=>exact r
theorem RO {F:Fence} {n:Nat} {P:Program} {fn:Func} {tmps:Array Value} {R:Ending->World->Prop}:∀ (Ds:List Nat) (w:World),Ds.Nodup->(∀ D ∈ Ds,w.heap[D]? = some (.deferred (some [])))->(∃ v,(results fn tmps).run P (shut Ds w) = .ok v (shut Ds w) ∧ R (.returned v) (shut Ds w))->LeavesInM F n P fn tmps R (Ds.map aSr) .returning w
 | [],w,_,_,h=>h
 | D :: Ds,w,hn,hD,h=>by
  have hn':=List.nodup_cons.1 hn
  refine ⟨by simp,.inl ⟨D,_,rfl,run_takeDeferred (hD D (by simp)),RO Ds _ hn'.2 (fun E hE=>?_) h⟩⟩
  have hne:E ≠ D:=fun e=>hn'.1 (by rw [← e]; exact hE)
  exact (World.putObj_heap_other hne).trans (hD E (by simp [hE]))
theorem Rl.shut {nt:Nat} {w0:cF} {h0:Hp} {fr:Nat->V} {bl:Nat->Option aO} {a:Act} {h:Hp} {hd:Nat->Value}:∀ (Ds:List Nat) (w:World) (b:cF) (hb:Hp),F2 w0 h0 b hb->(∀ D ∈ Ds,w0.own D ∧ ¬ b.own D ∧ h D = none)->Rl nt b hb fr bl a w h hd->∃ b',F2 w0 h0 b' h ∧ Rl nt b' h fr bl a (shut Ds w) h hd
 | [],w,b,hb,u,_,r=>⟨b.re w (fun _=>False) (fun _=>none) b.O a.defers,⟨(r.un u).1,(r.un u).2.1,(r.un u).2.2,fun g q=>u.own g (aBU r.below.size q)⟩,r.re (w2:=w) (row:=none) ⟨rfl,rfl,rfl,Õ _,fun _ _ _=>rfl⟩ (fun g e=>by cases e) (fun g e=>e.elim) (fun _ _ _=>rfl) (fun t v e=>by cases e) rfl⟩
 | D :: Ds,w,b,hb,u,hD,r=>by
  obtain ⟨d1,d2,d3⟩:=hD D (by simp)
  have hs:b.heap.size <= (w.putObj D (.deferred none)).heap.size:=by rw [World.putObj_size]; exact r.below.size
  have r1:=r.re (w2:=w.putObj D (.deferred none)) (row:=some D) (X:=fun g=>g = D) (F:=fun _=>none) (O:=b.O) (M:=a.defers) ⟨rfl,rfl,rfl,by simp,fun k _ hk=>World.putObj_heap_other (fun e=>hk (by rw [e]))⟩ (fun g e=>by cases e; exact ⟨d3,rfl⟩)
   (fun g e i c hb hl q=>by subst e; exact d2 ((r.blk i c hb).num hl q).1) (fun _ _ _=>rfl) (fun t v e=>by cases e) rfl
  refine Rl.shut Ds _ _ h ⟨?_,(r.un u).2.1,(r.un u).2.2,fun g q=>u.own g (aBU hs q)⟩ (fun E hE=>?_) r1
  ·refine (r.un u).1.trans ⟨rfl,rfl,rfl,by simp [cF.re],fun k hk=>World.putObj_heap_other fun e=>hk (e ▸ d1)⟩
  ·obtain ⟨e1,e2,e3⟩:=hD E (by simp [hE])
   exact ⟨e1,fun q=>e2 (aBU hs q),e3⟩
def RB (P:Program) (fn:Func) (sf:bY):Prop :=
 fn.params.size + fn.nfree = sf.np ∧ fn.name ≠ "runtime.NumGoroutine" ∧ fn.ntmps = sf.nt ∧ sf.np <= sf.nt ∧ aT (RT P) fn.results.toList = some sf.results ∧ ∃ c,fn.body = some c ∧ (P.follows .mixedOrders = true->pU P sf.nt c sf.body) ∧ (sf.lend = true->zP P sf.nt c = some sf.body.bare)
theorem aK.low {nt:Nat} {c:Code} {sc:aP} (hm:P.follows .mixedOrders = true) (h:zP P nt c = some sc.bare):aK P nt c sc :=
 fun C hC n w0 h0 s s' ex a w h' hd Q hF he r hQ=>aEt hC hm n sc c s s' ex a w h' hd Q (BD.none hF c) h he r hQ
theorem fZ.g {fn:Func} {sf:bY} (l:fZ P fn sf):RB P fn sf:=by
 obtain ⟨l1,l2,l3,l4,l5,c,l6,l7⟩:=l
 exact ⟨l1,l2,l3,l4,l5,c,l6,fun hm=>(aK.low hm l7).to,fun _=>l7⟩
theorem aK.seq {nt:Nat} {c d:Code} {x y:aP} (h1:aK P nt c x) (h2:aK P nt d y):aK P nt (.seq c d) (.seq x y):=by
 intro C hC n w0 h0 s s' ex a w h hd Q hF he r hQ
 refine wp_seq ?_
 simp only [bH] at he
 split at he
 ·rename_i s1 he1
  exact h1 C hC n w0 h0 s s1 .normal a w h hd _ hF he1 r fun a' w' h' hd' r'=>h2 C hC n w0 h0 s1 s' ex a' w' h' hd' Q hF he r' hQ
 ·rename_i hne
  refine h1 C hC n w0 h0 s s' ex a w h hd _ hF he r fun a' w' h' hd' r'=>?_
  cases ex with
  | normal=>exact absurd he (hne _)
  | exit id=>exact hQ _ _ _ _ r'
  | ret=>exact hQ _ _ _ _ r'
theorem aK.pre {nt:Nat} {c:Code} {x:aP} (m:xF) (h1:aK P nt c x):aK P nt c (.pre m x):=by
 intro C hC n w0 h0 s s' ex a w h hd Q hF he r hQ
 simp only [bH] at he
 obtain ⟨h',hd',r'⟩:=JI r m
 exact h1 C hC n w0 h0 _ s' ex a w h' hd' Q hF he r' hQ
theorem aK.post {nt:Nat} {c:Code} {x:aP} (m:xF) (h1:aK P nt c x):aK P nt c (.post x m):=by
 intro C hC n w0 h0 s s' ex a w h hd Q hF he r hQ
 simp only [bH] at he
 split at he
 ·rename_i s1 he1
  cases he
  refine h1 C hC n w0 h0 s s1 .normal a w h hd Q hF he1 r fun a' w' h' hd' r'=>?_
  obtain ⟨h'',hd'',r''⟩:=JI r' m
  exact hQ _ _ _ _ r''
 ·rename_i hne
  exact h1 C hC n w0 h0 s s' ex a w h hd Q hF he r hQ
theorem aJn {nt t:Nat} {w0:cF} (hF:∀ d,d ≠ t->w0.F d = none):∀ (sc:aP) (c:Code),zP P nt c = some sc.bare->F6 t sc = true->BD w0 c:=by
 intro sc
 induction sc with
 | region ops draw =>
  intro c hl hn
  cases c <;> simp only [zP,aP.bare] at hl
  case region id rops dr =>
   have key:aT (nQ P nt rops) rops.toList = some (ops.map aY.bare):=by
    split at hl
    ·cases hl
    ·rename_i l hlow
     rw [hlow]
     split at hl
     ·split at hl
      ·cases hl; rfl
      ·cases hl
     ·cases hl; rfl
   intro o ho d hd
   obtain ⟨i,hi⟩:=æ.1 ho
   obtain ⟨so,q1,q2⟩:=(bP key).2 i o hi
   rw [Ç,Á] at q1
   obtain ⟨so',q3,rfl⟩:=q1
   have hdst:so'.dst = o.dst:=by
    unfold nQ at q2
    split at q2
    ·split at q2
     ·have:=ă (fun z=>z.map aY.dst) q2; simpa [aY.bare] using this.symm
     ·split at q2
      ·have:=ă (fun z=>z.map aY.dst) q2; simpa [aY.bare] using this.symm
      ·cases q2
    ·cases q2
   have:=Ì.1 hn so' (Ê q3)
   rw [hdst,hd] at this
   exact hF d (by simpa using this)
  case seq=>split at hl <;> cases hl
  case cond=>split at hl <;> cases hl
  case block=>rw [Á] at hl; obtain ⟨_,_,e⟩:=hl; cases e
  case loop=>rw [Á] at hl; obtain ⟨_,_,e⟩:=hl; cases e
  all_goals cases hl
 | seq x y ihx ihy =>
  intro c hl hn
  simp only [F6,ë] at hn
  cases c <;> simp only [zP,aP.bare] at hl
  case region=>split at hl <;> first | (cases hl; done) | skip; split at hl <;> first | (cases hl; done) | skip; split at hl <;> cases hl
  case seq ca cb =>
   split at hl
   ·rename_i l1 l2 h1 h2
    cases hl
    exact ⟨ihx ca h1 hn.1,ihy cb h2 hn.2⟩
   ·cases hl
  case cond=>split at hl <;> cases hl
  case block=>rw [Á] at hl; obtain ⟨_,_,e⟩:=hl; cases e
  case loop=>rw [Á] at hl; obtain ⟨_,_,e⟩:=hl; cases e
  all_goals cases hl
 | cond q x y ihx ihy =>
  intro c hl hn
  simp only [F6,ë] at hn
  cases c <;> simp only [zP,aP.bare] at hl
  case region=>split at hl <;> first | (cases hl; done) | skip; split at hl <;> first | (cases hl; done) | skip; split at hl <;> cases hl
  case seq=>split at hl <;> cases hl
  case cond co ca cb =>
   split at hl
   ·rename_i l0 l1 l2 h1 h2 h3
    cases hl
    exact ⟨ihx ca h2 hn.1,ihy cb h3 hn.2⟩
   ·cases hl
  case block=>rw [Á] at hl; obtain ⟨_,_,e⟩:=hl; cases e
  case loop=>rw [Á] at hl; obtain ⟨_,_,e⟩:=hl; cases e
  all_goals cases hl
 | block id x ih =>
  intro c hl hn
  cases c <;> simp only [zP,aP.bare] at hl
  case region=>split at hl <;> first | (cases hl; done) | skip; split at hl <;> first | (cases hl; done) | skip; split at hl <;> cases hl
  case seq=>split at hl <;> cases hl
  case cond=>split at hl <;> cases hl
  case block id' ca=>rw [Á] at hl; obtain ⟨l1,h1,e⟩:=hl; cases e; exact ih ca h1 hn
  case loop=>rw [Á] at hl; obtain ⟨_,_,e⟩:=hl; cases e
  all_goals cases hl
 | loop x ih =>
  intro c hl hn
  cases c <;> simp only [zP,aP.bare] at hl
  case region=>split at hl <;> first | (cases hl; done) | skip; split at hl <;> first | (cases hl; done) | skip; split at hl <;> cases hl
  case seq=>split at hl <;> cases hl
  case cond=>split at hl <;> cases hl
  case block=>rw [Á] at hl; obtain ⟨_,_,e⟩:=hl; cases e
  case loop ca=>rw [Á] at hl; obtain ⟨l1,h1,e⟩:=hl; cases e; exact ih ca h1 hn
  all_goals cases hl
 | pre m x ih=>intro c hl hn; exact ih c hl hn
 | post x m ih=>intro c hl hn; exact ih c hl hn
 | _ =>
  intro c hl hn
  cases c <;> simp only [zP,aP.bare] at hl
  case region=>split at hl <;> first | (cases hl; done) | skip; split at hl <;> first | (cases hl; done) | skip; split at hl <;> cases hl
  case seq=>split at hl <;> cases hl
  case cond=>split at hl <;> cases hl
  case block=>rw [Á] at hl; obtain ⟨_,_,e⟩:=hl; cases e
  case loop=>rw [Á] at hl; obtain ⟨_,_,e⟩:=hl; cases e
  all_goals first | trivial | cases hl
section
variable {h:Hp} {hd:Nat->Value} {bl bl' : Nat->Option aO} {v:Value} {id:Nat} {cs:List V}
theorem R1.drop (ho:bl id = some (.outer cs)) (he:∀ i,i ≠ id->bl' i = bl i):∀ {x:V},R1 h hd bl v x->R1 h hd bl' v x:=by
 intro x r
 cases x with
 | ptr i off =>
  obtain ⟨⟨b,hb,hx⟩,q⟩:=r
  have:i ≠ id:=fun e=>by rw [e,ho] at hb; cases hb; cases hx
  exact ⟨⟨b,by rw [he i this]; exact hb,hx⟩,q⟩
 | own i ver =>
  obtain ⟨b,c,hb,hc,q⟩:=r
  have:i ≠ id:=fun e=>by rw [e,ho] at hb; cases hb; cases hc
  exact ⟨b,c,by rw [he i this]; exact hb,hc,q⟩
 | orow i ver j off =>
  obtain ⟨b,c,hb,hc,q⟩:=r
  have:i ≠ id:=fun e=>by rw [e,ho] at hb; cases hb; cases hc
  exact ⟨b,c,by rw [he i this]; exact hb,hc,q⟩
 | mp i =>
  obtain ⟨⟨b,hb,hx⟩,q⟩:=r
  have:i ≠ id:=fun e=>by rw [e,ho] at hb; cases hb; cases hx
  exact ⟨⟨b,by rw [he i this]; exact hb,hx⟩,q⟩
 | any=>exact r
 | d x=>exact r
 | nil=>exact r
 | agg cs=>exact r
 | tup cs=>exact r
 | fn f caps =>
  obtain ⟨arr,e,hs,hr⟩:=r
  refine ⟨arr,e,hs,fun j x hx=>?_⟩
  have hxr:=hr j x hx
  cases x with
  | ptr i off =>
   obtain ⟨⟨b,hb,hx⟩,q⟩:=hxr
   have:i ≠ id:=fun e=>by rw [e,ho] at hb; cases hb; cases hx
   exact ⟨⟨b,by rw [he i this]; exact hb,hx⟩,q⟩
  | _=>exact hxr.elim
theorem R2.drop (ho:bl id = some (.outer cs)) (he:∀ i,i ≠ id->bl' i = bl i):∀ {x:V},R2 h hd bl v x->R2 h hd bl' v x:=by
 intro x r
 cases x with
 | agg cs =>
  obtain ⟨arr,e,hs,hr⟩:=r
  exact ⟨arr,e,hs,fun j x hx=>⟨(hr j x hx).1.drop ho he,(hr j x hx).2⟩⟩
 | _=>exact R2.of1 (R1.drop ho he r)
theorem R3.drop (ho:bl id = some (.outer cs)) (he:∀ i,i ≠ id->bl' i = bl i):∀ {x:V},R3 h hd bl v x->R3 h hd bl' v x:=by
 intro x r
 cases x with
 | tup cs =>
  obtain ⟨arr,e,hs,hr⟩:=r
  exact ⟨arr,e,hs,fun j x hx=>(hr j x hx).drop ho he⟩
 | _=>exact R3.of2 (R2.drop ho he r)
theorem BR.drop {b0 b1:cF} {w:World} {i:Nat} {b:aO} (hown:∀ g,b1.own g->b0.own g) (hO:b0.O i = b1.O i) (ho:bl id = some (.outer cs)) (he:∀ i,i ≠ id->bl' i = bl i) (r:BR b1 w h hd bl i b):BR b0 w h hd bl' i b:=by
 cases b with
 | box cs =>
  obtain ⟨g,arr,e,h1,h2,h3,h4,h5,h6⟩:=r
  exact ⟨g,arr,e,h1,hown g h2,h3,h4,fun j x hx=>⟨(h5 j x hx).1.drop ho he,(h5 j x hx).2⟩,h6⟩
 | rows ver e size rows =>
  obtain ⟨h1,h2,h3,h4⟩:=r
  exact ⟨h1,h2,h3,fun g hg=>⟨(h4 g hg).1,hown g (h4 g hg).2⟩⟩
 | froz ver rows=>exact r
 | fbox cs=>exact r
 | mp ek m =>
  obtain ⟨g,h1,h2,h3⟩:=r
  exact ⟨g,h1,hown g h2,h3⟩
 | fmp ek m=>exact r
 | outer cs =>
  intro j x hx
  rw [hO]
  exact (r j x hx).drop ho he
end
theorem V1:∀ (l:List V) (i t:Nat),lk (s8 i l) .any t = if i <= t then l.getD (t - i) .any else .any
 | [],i,t=>by simp [s8,lk]
 | d :: l,i,t=>by
  simp only [s8,lk,V1 l (i + 1) t]
  by_cases e:t = i
  ·subst e; simp
  ·rw [Ã e]
   by_cases h:i + 1 <= t
   ·rw [Â h,Â (by omega)]
    have:t - i = (t - (i + 1)) + 1:=by omega
    rw [this,List.getD_cons_succ]
   ·rw [Ã h,Ã (by omega)]
theorem aMz {C:Nat->List D->Option D} (hC:rW P C) {n nt ix:Nat} {rops:Array Oper} {L:List aY} {dst:Option Nat} {f:Nat} {lop:fT} {ws:List V} {body:aP} {res:List kT} {id:Nat} {slots:List Nat} {fn:Func} {c' : Code}
  (hlow:aT (nQ P nt rops) rops.toList = some L) (hLi:L[ix]? = some ⟨dst,lop,none,dst.getD 0⟩) (hfn:P.funcs[f]? = some fn) (l6:fn.body = some c') (l3:ws.length <= fn.ntmps) (l5:aT (RT P) fn.results.toList = some res)
  (hb:aK P fn.ntmps c' body) {w0:cF} {h0:Hp} {s1 s2 s3 s' : St} {ex' : Ex} {a1:Act} {w1:World} {h1:Hp} {hd1:Nat->Value} {Q:Exit->Act->World->Prop} {K:Act->World->Prop}
  (hF:∀ t,w0.F t = none) (r1:Rl nt w0 h0 s1.get s1.blk a1 w1 h1 hd1)
  (hs2:GX ws id slots s1 = some s2) (hev:bH C n body s2 = some (ex',s3)) (hout:mS dst res id slots s3 = some s') (hex:ex' = .normal ∨ ex' = .ret)
  (hop:∀ (o:Oper) (a1:Act) (w1:World) (h1:Hp) (hd1:Nat->Value),xV P o = lop->Rl nt w0 h0 s1.get s1.blk a1 w1 h1 hd1->∃ vs:Array Value,vs.size = ws.length ∧ (∀ (j:Nat) (y:V),ws[j]? = some y->R3 h1 hd1 s1.blk (vs.getD j undef) y) ∧ (execOp a1.eval o).run P w1 = .ok (.enter f vs) w1)
  (hQ:∀ a' w' h' hd',Rl nt w0 h0 s'.get s'.blk a' w' h' hd'->K a' w'):wpOp P rops Q ix K a1 w1:=by
 have hOF:U2 w0 rops:=fun _ _ d _=>hF d
 obtain ⟨o,q1,q2⟩:=bU hlow hLi
 have ho:rops[ix]? = some o:=by simpa using q1
 obtain ⟨g1,g2,g3,g4,g5⟩:=aAw r1 q2 (hOF o (by have:=ķ ho; simpa using this))
 replace g2:dst = o.dst:=g2
 unfold wpOp
 rw [ho]
 simp only
 rw [Â (g4 rfl)]
 refine .inl ?_
 obtain ⟨vs,a1s,a2,hexec⟩:=hop o a1 w1 h1 hd1 g1.symm r1
 unfold Oper.wp
 rw [hexec]
 simp only [Oper.upon]
 -- inside
 have hs2' : s1.blk id = none ∧ s2 = ⟨s8 0 ws,(id,some (.outer (slots.map s1.get))) :: s1.bl⟩:=by
  unfold GX at hs2
  split at hs2
  ·rename_i q
   cases hs2
   exact ⟨by simpa using q,rfl⟩
  ·cases hs2
 obtain ⟨hnone,rfl⟩:=hs2'
 have hget:∀ i,i < vs.size->(vs ++ Array.replicate (fn.ntmps - vs.size) undef).getD i undef = vs.getD i undef:=fun i hi=>by
  simp only [É]
  rw [ù hi]
 have hbl:∀ i,(⟨s8 0 ws,(id,some (.outer (slots.map s1.get))) :: s1.bl⟩ : St).blk i = if i = id then some (.outer (slots.map s1.get)) else s1.blk i:=fun i=>rfl
 have hk:Kp hd1 hd1 s1.blk (⟨s8 0 ws,(id,some (.outer (slots.map s1.get))) :: s1.bl⟩ : St).blk:=by
  intro i b hb
  have:i ≠ id:=fun e=>by rw [e,hnone] at hb; cases hb
  exact ⟨b,by rw [hbl,Ã this]; exact hb,A7.refl _ _ _⟩
 let w0' : cF:={ w0 with M:=[],F:=fun _=>none,O:=fun i j=>if i = id then a1.tmps.getD (slots.getD j 0) undef else w0.O i j }
 have r2:Rl fn.ntmps w0' h0 (⟨s8 0 ws,(id,some (.outer (slots.map s1.get))) :: s1.bl⟩ : St).get (⟨s8 0 ws,(id,some (.outer (slots.map s1.get))) :: s1.bl⟩ : St).blk { tmps:=vs ++ Array.replicate (fn.ntmps - vs.size) undef,defers:=[] } w1 h1 hd1:={
  tmps:=by simp only [ę,Array.size_replicate]; omega
  defers:=rfl
  fixed:=fun i v hF=>by cases hF
  below:=⟨r1.below.os,r1.below.tape,r1.below.output,r1.below.size,r1.below.block⟩
  hle:=r1.hle
  h0le:=r1.h0le
  glob:=r1.glob
  hbase:=r1.hbase
  frame:=fun t=>by
   have e1:(⟨s8 0 ws,(id,some (.outer (slots.map s1.get))) :: s1.bl⟩ : St).get t = ws.getD t .any:=by
    have:=V1 ws 0 t
    simpa [St.get] using this
   rw [e1]
   cases hy:ws[t]? with
   | none =>
    have:ws.getD t .any = .any:=by simp [ä,hy]
    rw [this]
    trivial
   | some y =>
    have:ws.getD t .any = y:=by simp [ä,hy]
    rw [this]
    have hlt:t < vs.size:=by rw [a1s]; exact (Å.1 hy).1
    show R3 _ _ _ (Array.getD (vs ++ Array.replicate (fn.ntmps - vs.size) undef) t undef) _
    rw [hget t hlt]
    exact (a2 t y hy).keep (Hp.le.refl _) hk
  blk:=fun i b hb=>by
   rw [hbl] at hb
   split at hb
   ·rename_i e
    subst e
    cases hb
    intro j x hx
    rw [Ç,Á] at hx
    obtain ⟨t,ht,rfl⟩:=hx
    have:w0'.O i j = a1.tmps.getD t undef:=by
     show (if i = i then a1.tmps.getD (slots.getD j 0) undef else w0.O i j) = _
     rw [Â rfl,ä,ht]
     rfl
    rw [this]
    exact (r1.frame t).keep (Hp.le.refl _) hk
   ·rename_i e
    exact (BR.base (b0:=w0') (b1:=w0) (fun g q=>q) (.inr (by funext j; exact Ã e)) (r1.blk i b hb)).keep (Hp.le.refl _) hk rfl fun _ _ _=>⟨rfl,fun q=>q⟩
  sep:=fun i j bi bj g hi hj li lj gi gj=>by
   rw [hbl] at hi hj
   split at hi
   ·cases hi; cases li
   ·split at hj
    ·cases hj; cases lj
    ·exact r1.sep i j bi bj g hi hj li lj gi gj }
 have hcalls:Calls P f vs w1 fun en w'=>∃ cv,en = .returned cv ∧ ∃ h' hd',Rl nt w0 h0 s'.get s'.blk (a1.put o.dst cv) w' h' hd':=by
  refine calls_of_wp hfn l6 ?_
  refine hb C hC n w0' h0 _ s3 ex' _ w1 h1 hd1 _ (fun _=>rfl) hev r2 fun a' w' h' hd' r'=>?_
  have back:∀ (cv:Value) (v:V) (cs:List V),s3.blk id = some (.outer cs)->R3 h' hd' s3.blk cv v->s' = ⟨PW dst v ++ slots.zip cs,(id,none) :: s3.bl⟩->Rl nt w0 h0 s'.get s'.blk (a1.put o.dst cv) w' h' hd':=by
   rintro cv v cs ho hv rfl
   have hb4:∀ i,(⟨PW dst v ++ slots.zip cs,(id,none) :: s3.bl⟩ : St).blk i = if i = id then none else s3.blk i:=fun i=>rfl
   have hne:∀ i,i ≠ id->(⟨PW dst v ++ slots.zip cs,(id,none) :: s3.bl⟩ : St).blk i = s3.blk i:=fun i e=>by rw [hb4,Ã e]
   have hO:=r'.blk id _ ho
   have hzip:∀ t,R3 h' hd' s3.blk (a1.tmps.getD t undef) (lk (slots.zip cs) .any t):=by
    intro t
    rcases GG (slots.zip cs) .any t with e | ⟨p,hp,e1,e2⟩
    ·rw [e]; trivial
    ·obtain ⟨j,hj⟩:=æ.1 hp
     rw [List.getElem?_zip_eq_some] at hj
     have:=hO j p.2 hj.2
     have e3:w0'.O id j = a1.tmps.getD t undef:=by
      show (if id = id then a1.tmps.getD (slots.getD j 0) undef else w0.O id j) = _
      rw [Â rfl,ä,hj.1,← e1]
      rfl
     rw [← e2,← e3]
     exact this
   exact {
    tmps:=by cases o.dst <;> simp [Act.put,r1.tmps]
    defers:=by cases o.dst <;> simp [Act.put,r1.defers]
    fixed:=fun t u hq=>by rw [hF t] at hq; cases hq
    below:=⟨r'.below.os,r'.below.tape,r'.below.output,r'.below.size,r'.below.block⟩
    hle:=r'.hle
    h0le:=r'.h0le
    glob:=r1.glob
    hbase:=r'.hbase
    frame:=fun t=>by
     rw [UI a1 o.dst cv t nt r1.tmps fun d e=>(g3 d e).1]
     refine R3.drop ho hne ?_
     rw [← g2]
     cases dst with
     | none=>rw [Ã (by intro q; cases q)]; exact hzip t
     | some d =>
      show R3 h' hd' s3.blk _ (lk ((d,v) :: slots.zip cs) .any t)
      simp only [lk]
      by_cases e:t = d
      ·subst e
       rw [Â rfl,Â rfl]; exact hv
      ·rw [Ã e,Ã fun q=>e (ã q).symm]; exact hzip t
    blk:=fun i b hb=>by
     rw [hb4] at hb
     split at hb
     ·cases hb
     ·rename_i e
      exact BR.drop (b0:=w0) (b1:=w0') (fun g q=>q) (by funext j; exact (Ã e).symm) ho hne (r'.blk i b hb)
    sep:=fun i j bi bj g hi hj li lj gi gj=>by
     rw [hb4] at hi hj
     split at hi
     ·cases hi
     ·split at hj
      ·cases hj
      ·exact r'.sep i j bi bj g hi hj li lj gi gj }
  have key:a'.defers = [] ∧ ∃ v,(results fn a'.tmps).run P w' = .ok v w' ∧ ∃ cv,(Ending.returned v) = .returned cv ∧ ∃ h' hd',Rl nt w0 h0 s'.get s'.blk (a1.put o.dst cv) w' h' hd':=by
   refine ⟨r'.defers,?_⟩
   unfold mS at hout
   split at hout
   ·rename_i cs v ho hres
    obtain ⟨cvs,k1,k2,k3⟩:=xP r' fn.results.toList res [v] l5 hres
    match cvs,k2 with
    | [cv],_ =>
     have hv:R3 h' hd' s3.blk cv v:=by simpa using k3 0 v rfl
     have hrun:(results fn a'.tmps).run P w' = .ok cv w':=by
      unfold results
      rw [← Ú (xs:=fn.results),ĉ]
      simp only [î,ġ]
      erw [k1]
      simp
     exact ⟨cv,hrun,cv,rfl,h',hd',back cv v cs ho hv (ã hout).symm⟩
   ·rename_i cs vs hne ho hres
    split at hout
    ·rename_i hall
     obtain ⟨cvs,k1,k2,k3⟩:=xP r' fn.results.toList res vs l5 hres
     have hne1:cvs.length ≠ 1:=by
      intro h1
      rw [k2] at h1
      match vs,h1 with
      | [v],_=>exact hne v rfl
     have hrun:(results fn a'.tmps).run P w' = .ok (.tuple cvs.toArray) w':=by
      unfold results
      rw [← Ú (xs:=fn.results),ĉ]
      simp only [î,ġ]
      erw [k1]
      simp [hne1]
     have hR:R3 h' hd' s3.blk (.tuple cvs.toArray) (.tup vs):=by
      refine ⟨cvs.toArray,rfl,by simpa using k2,fun j z hz=>?_⟩
      have h3:=k3 j z hz
      have e3:cvs.toArray.getD j undef = cvs.getD j undef:=by simp
      rw [e3]
      have hz':=Ì.1 hall z (Ê hz)
      cases z <;> first | exact h3 | cases hz'
     exact ⟨_,hrun,_,rfl,h',hd',back _ _ cs ho hR (ã hout).symm⟩
    ·cases hout
   ·cases hout
  rcases hex with rfl | rfl
  ·exact key
  ·exact key
 refine hcalls.mono ?_
 rintro en w' ⟨cv,rfl,h',hd',r'⟩
 exact hQ _ _ h' hd' r'
theorem aNw {C:Nat->List D->Option D} (hC:rW P C) {n nt:Nat} {rops:Array Oper} {ops:List aY} {dst:Option Nat} {f:Nat} {lop:fT} {ws:List V} {body:aP} {res:List kT} {id:Nat} {slots:List Nat} {fn:Func} {c' : Code} {ext:List aY}
  (hlow:aT (nQ P nt rops) rops.toList = some (ops.map aY.bare ++ ⟨dst,lop,none,dst.getD 0⟩ :: ext)) (hfn:P.funcs[f]? = some fn) (l6:fn.body = some c') (l3:ws.length <= fn.ntmps) (l5:aT (RT P) fn.results.toList = some res)
  (hb:aK P fn.ntmps c' body) {w0:cF} {h0:Hp} {s s1 s2 s3 s' : St} {ex' : Ex} {a:Act} {w:World} {h:Hp} {hd:Nat->Value} {Q:Exit->Act->World->Prop} {rest:List Nat}
  (hF:∀ t,w0.F t = none) (r:Rl nt w0 h0 s.get s.blk a w h hd)
  (hs1:j5 C ops s = some s1) (hs2:GX ws id slots s1 = some s2) (hev:bH C n body s2 = some (ex',s3)) (hout:mS dst res id slots s3 = some s') (hex:ex' = .normal ∨ ex' = .ret)
  (hop:∀ (o:Oper) (a1:Act) (w1:World) (h1:Hp) (hd1:Nat->Value),xV P o = lop->Rl nt w0 h0 s1.get s1.blk a1 w1 h1 hd1->∃ vs:Array Value,vs.size = ws.length ∧ (∀ (j:Nat) (y:V),ws[j]? = some y->R3 h1 hd1 s1.blk (vs.getD j undef) y) ∧ (execOp a1.eval o).run P w1 = .ok (.enter f vs) w1)
  (hQ:∀ a' w' h' hd',Rl nt w0 h0 s'.get s'.blk a' w' h' hd'->wpOps P rops Q rest a' w'):wpOps P rops Q (List.range ops.length ++ ops.length :: rest) a w:=by
 have hOF:U2 w0 rops:=fun _ _ d _=>hF d
 obtain ⟨ps,hps⟩:=S7 hs1
 have hst:=rT ops (fun i=>ps.getD i ([],[])) (k:=0) (fun i=>by simp) (fun i _=>by simp) hps
 have e0:(List.range ops.length).map (0 + ·) = List.range ops.length:=by simp
 rw [e0] at hst
 refine XF hC hOF hlow _ (s':=s1.fn) ?_ _ s.fn a w h hd r hst
 intro a1 w1 h1 hd1 r1
 replace r1:Rl nt w0 h0 s1.get s1.blk a1 w1 h1 hd1:=r1
 rw [wpOps_cons]
 exact aMz hC hlow (by simp) hfn l6 l3 l5 hb hF r1 hs2 hev hout hex hop hQ
theorem aGV {C:Nat->List D->Option D} (hC:rW P C) {n nt nc:Nat} {rops:Array Oper} {ops:List aY} {dst:Option Nat} {f:Nat} {x:bO} {args:List bO} {body:aP} {res:List kT} {id:Nat} {slots:List Nat} {fn:Func} {c' : Code} {ext:List aY}
  (hlow:aT (nQ P nt rops) rops.toList = some (ops.map aY.bare ++ ⟨dst,.callv x args,none,dst.getD 0⟩ :: ext)) (hfn:P.funcs[f]? = some fn) (l2:fn.name ≠ "runtime.NumGoroutine") (l6:fn.body = some c') (l3:args.length + nc <= fn.ntmps) (l5:aT (RT P) fn.results.toList = some res)
  (hb:aK P fn.ntmps c' body) {w0:cF} {h0:Hp} {s s' : St} {ex:Ex} {a:Act} {w:World} {h:Hp} {hd:Nat->Value} {Q:Exit->Act->World->Prop} {rest:List Nat}
  (hF:∀ t,w0.F t = none) (he:bH C n (.inlv ops x nc args dst f body res id slots) s = some (ex,s')) (r:Rl nt w0 h0 s.get s.blk a w h hd)
  (hQ:ex = .normal->∀ a' w' h' hd',Rl nt w0 h0 s'.get s'.blk a' w' h' hd'->wpOps P rops Q rest a' w'):wpOps P rops Q (List.range ops.length ++ ops.length :: rest) a w:=by
 simp only [bH] at he
 split at he
 ·cases he
 rename_i s1 hs1
 split at he
 ·cases he
 rename_i caps hcaps
 split at he
 ·cases he
 rename_i s2 hs2
 have hfin:∃ ex' s3,bH C n body s2 = some (ex',s3) ∧ mS dst res id slots s3 = some s' ∧ ex = .normal ∧ (ex' = .normal ∨ ex' = .ret):=by
  split at he
  ·rename_i s3 h3
   obtain ⟨s4,q1,q2⟩:=Á.1 he
   cases q2
   exact ⟨_,s3,h3,q1,rfl,.inl rfl⟩
  ·rename_i s3 h3
   obtain ⟨s4,q1,q2⟩:=Á.1 he
   cases q2
   exact ⟨_,s3,h3,q1,rfl,.inr rfl⟩
  ·cases he
 obtain ⟨ex',s3,hev,hout,rfl,hex⟩:=hfin
 have hcv:bN s1.get x = .fn f caps ∧ caps.length = nc:=by
  unfold EU at hcaps
  split at hcaps
  ·rename_i g cs hg
   split at hcaps
   ·rename_i q
    cases hcaps
    obtain ⟨rfl,q2⟩:=q
    exact ⟨hg,q2⟩
   ·cases hcaps
  ·cases hcaps
 refine aNw hC hlow hfn l6 (by rw [ß,â,hcv.2]; exact l3) l5 hb hF r hs1 hs2 hev hout hex ?_ (hQ rfl)
 intro o a1 w1 h1 hd1 g1 r1
 obtain ⟨c,y,hop,hcal,hy,hl⟩:=Q1 g1
 obtain ⟨m1,m2⟩:=bP hl
 have hfv:=bC r1.globs r1.frame hy
 rw [hcv.1] at hfv
 obtain ⟨arr,hge,hgs,hgr⟩ : ∃ arr:Array Value,a1.eval y = .func (.func f) #[] arr ∧ arr.size = caps.length ∧ ∀ j x,caps[j]? = some x->RC hd1 s1.blk (arr.getD j undef) x:=hfv
 have hsz:(c.args.map a1.eval).size = (args.map (bN s1.get)).length:=by simpa using m1
 refine ⟨c.args.map a1.eval ++ arr,by rw [ę,ß,hsz,hgs],fun j z hz=>?_,?_⟩
 ·rw [List.getElem?_append] at hz
  split at hz
  ·rename_i hlt
   rw [Ç,Á] at hz
   obtain ⟨u,hu,rfl⟩:=hz
   obtain ⟨q,x1,x2⟩:=bU hl hu
   have x1' : c.args[j]? = some q:=by simpa using x1
   have e3:(c.args.map a1.eval ++ arr).getD j undef = a1.eval q:=by
    simp only [É]
    rw [ù (by omega)]
    simp [x1']
   rw [e3]
   exact bC r1.globs r1.frame x2
  ·rename_i hlt
   have e3:(c.args.map a1.eval ++ arr).getD j undef = arr.getD (j - (args.map (bN s1.get)).length) undef:=by
    simp only [É]
    rw [Ě (by omega),hsz]
   rw [e3]
   have hrc:=hgr _ z hz
   cases z with
   | ptr i off=>exact hrc
   | _=>exact hrc.elim
 ·simp [execOp,hop,resolve,hcal,hge,Deferred.ofValue,invoke,callFunc,hfn,l2,l6]
theorem CN {nt rid:Nat} {rops:Array Oper} {ops:List aY} {dst:Option Nat} {f:Nat} {x:bO} {nc:Nat} {args:List bO} {body:aP} {res:List kT} {id:Nat} {slots:List Nat} {fn:Func} {c' : Code}
  (hlow:aT (nQ P nt rops) rops.toList = some (ops.map aY.bare ++ [⟨dst,.callv x args,none,dst.getD 0⟩])) (hfn:P.funcs[f]? = some fn) (l2:fn.name ≠ "runtime.NumGoroutine") (l6:fn.body = some c') (l3:args.length + nc <= fn.ntmps) (l5:aT (RT P) fn.results.toList = some res)
  (hb:aK P fn.ntmps c' body):aK P nt (.region rid rops false) (.inlv ops x nc args dst f body res id slots):=by
 intro C hC n w0 h0 s s' ex a w h hd Q hF he r hQ
 have hlen:rops.size = ops.length + 1:=by simpa using (bP hlow).1
 refine wp_region ?_
 rw [hlen,List.range_succ]
 refine aGV hC hlow hfn l2 l6 l3 l5 hb hF he r ?_
 rintro rfl a' w' h' hd' r'
 exact hQ _ _ h' hd' r'
theorem aE4 {C:Nat->List D->Option D} (hC:rW P C) (hm:P.follows .mixedOrders = true) {n f t:Nat} {fn:Func} {sf:bY} {c:Code} {ds:List D} {x:D} {ex:Ex} {s:St} (hfn:P.funcs[f]? = some fn) (l2:fn.name ≠ "runtime.NumGoroutine") (l3:fn.ntmps = sf.nt) (l4:sf.np <= sf.nt)
  (l5:aT (RT P) fn.results.toList = some sf.results) (l6:fn.body = some c) (l7:zP P sf.nt c = some sf.body.bare) (hnp:ds.length = sf.np) (hnd:F6 t sf.body = true)
  (hev:bH C n sf.body (LL t ds) = some (ex,s)) (hfs:ED sf s t = some x) (hex:ex = .normal ∨ ex = .ret):X1 P f ds t x:=by
 refine ⟨⟨fn,hfn,l2,by rw [l6]; rfl⟩,?_⟩
 intro e size rows rows' y hdt hx w h vs hle hvs hrd hlent hG
 refine calls_of_wp hfn l6 ?_
 generalize hvt:vs.getD t undef = vt at hlent ⊢
 have hvsz:vs.size = sf.np:=by omega
 have htd:t < ds.length:=(Å.1 hdt).1
 have htv:t < vs.size:=by omega
 have hini:LL t ds = ⟨(t,.own 900000 0) :: mZ 0 ds,[(900000,some (.rows 0 e size rows))]⟩:=by
  unfold LL
  rw [hdt]
  rfl
 obtain ⟨e1,e2,⟨xs,e3,e4⟩,e5⟩:=hlent
 have hget:∀ i,i < vs.size->(vs ++ Array.replicate (fn.ntmps - vs.size) undef).getD i undef = vs.getD i undef:=fun i hi=>by
  simp only [É]
  rw [ù hi]
 have hbl:∀ id b,(LL t ds).blk id = some b->id = 900000 ∧ b = .rows 0 e size rows:=fun id b hb=>by
  rw [hini] at hb
  simp only [St.blk,lk] at hb
  split at hb
  ·rename_i q; cases hb; exact ⟨q,rfl⟩
  ·cases hb
 have hbl0:(LL t ds).blk 900000 = some (.rows 0 e size rows):=by rw [hini]; simp [St.blk,lk]
 have r0:Rl sf.nt (cF.lent w t (vt)) h (LL t ds).get (LL t ds).blk { tmps:=vs ++ Array.replicate (fn.ntmps - vs.size) undef,defers:=[] } w h (fun _=>vt):={
  tmps:=by simp; omega
  defers:=rfl
  fixed:=fun i v hF=>by
   simp only [cF.lent] at hF
   split at hF
   ·rename_i q; cases hF; subst q; exact (hget _ htv).trans hvt
   ·cases hF
  below:=CX.refl _ _
  hle:=hle
  h0le:=Hp.le.refl _
  glob:=hG
  hbase:=fun _ _=>rfl
  frame:=fun i=>by
   have q1:(LL t ds).get i = if i = t then .own 900000 0 else (match ds[i]? with | some d=>aLx d | none=>.any):=by
    rw [hini]
    simp only [St.get,lk]
    split
    ·rfl
    ·have:=MI ds 0 i
     simpa using this
   rw [q1]
   split
   ·rename_i q
    subst q
    rw [hget _ htv,hvt]
    exact ⟨_,0,hbl0,rfl,Õ _,e3.one,fun _=>rfl⟩
   ·rename_i hne
    cases hd:ds[i]? with
    | none=>trivial
    | some d =>
     have hlt:i < vs.size:=by rw [hvs]; exact (Å.1 hd).1
     simp only [hget i hlt]
     exact aEF (hrd i d hne hd)
  blk:=fun id b hb=>by
   obtain ⟨_,rfl⟩:=hbl id b hb
   exact ⟨e1,e2,⟨xs,e3,e4⟩,fun g hg=>⟨e5 g hg,.inr hg⟩⟩
  sep:=fun i j bi bj g hi hj _ _ _ _=>by rw [(hbl i bi hi).1,(hbl j bj hj).1] }
 refine aEt hC hm n sf.body c _ s ex _ w h _ _ (aJn (fun d hd=>by simp [cF.lent,hd]) sf.body c l7 hnd) l7 hev r0 fun a' w' h' hd' r'=>?_
 have key:a'.defers = [] ∧ ∃ v,(results fn a'.tmps).run P w' = .ok v w' ∧ ∃ v' h'',(Ending.returned v) = .returned v' ∧ a6 h'' v' y ∧ aAT w' h'' (vt) e size rows' ∧ h.le h'' ∧ h''.le (hw w') ∧ CX (cF.lent w t (vt)) w w':=by
  refine ⟨r'.defers,?_⟩
  unfold ED at hfs
  split at hfs
  ·rename_i id ver hst
   split at hfs
   ·rename_i vv e' size' rows'' hb
    split at hfs
    ·rename_i hv
     subst hv
     have hslot:hd' id = vt:=by
      have h3:=r'.frame t
      rw [hst] at h3
      obtain ⟨b,cc,g1,g2,g3,g4,g5⟩ : ∃ b c',s.blk id = some b ∧ b.ver? = some c' ∧ ver <= c' ∧ _ ∧ (ver = c'->_ = hd' id):=h3
      rw [hb] at g1
      cases g1
      simp only [aO.ver?,Ä] at g2
      rw [← g5 g2]
      exact r'.fixed t _ (by simp [cF.lent])
     have hLR:aAT w' h' (vt) e' size' rows'':=by
      obtain ⟨k1,k2,k3,k4⟩:=r'.blk id _ hb
      rw [hslot] at k3 k4
      exact ⟨k1,k2,k3,fun g hg=>(k4 g hg).1⟩
     split at hfs
     ·cases hfs
     ·rename_i u hres
      split at hfs
      ·rename_i y' hy
       split at hfs
       ·rename_i hfl
        rw [hx] at hfs
        simp only [Ä,D.own.injEq,List.cons.injEq,ú,and_true] at hfs
        obtain ⟨rfl,⟨rfl,rfl⟩,rfl⟩:=hfs
        obtain ⟨cvs,g1,g2,g3⟩:=xP r' fn.results.toList sf.results [u] l5 hres
        match cvs,g2 with
        | [cv],_ =>
         have hv:R3 h' hd' s.blk cv u:=by simpa using g3 0 u rfl
         have hrun:(results fn a'.tmps).run P w' = .ok cv w':=by
          unfold results
          rw [← Ú (xs:=fn.results),ĉ]
          simp only [î,ġ]
          erw [g1]
          simp
         have hrd:a6 (H5 w' h' hd' (yG s.blk u)) cv y':=oL r' _ (by cases u <;> first | exact hv | cases hy) hy (fun p hp=>hp)
         exact ⟨cv,hrun,cv,h',rfl,DC hrd hfl h',hLR,r'.h0le,r'.hle,r'.below⟩
       ·cases hfs
      ·cases hfs
     ·rename_i us hne hres
      split at hfs
      ·rename_i y' hy
       split at hfs
       ·rename_i hfl
        rw [hx] at hfs
        simp only [Ä,D.own.injEq,List.cons.injEq,ú,and_true] at hfs
        obtain ⟨rfl,⟨rfl,rfl⟩,rfl⟩:=hfs
        obtain ⟨cvs,g1,g2,g3⟩:=xP r' fn.results.toList sf.results us l5 hres
        have hne1:cvs.length ≠ 1:=by
         intro h1
         rw [g2] at h1
         match us,h1 with
         | [v],_=>exact hne v rfl
        have hrun:(results fn a'.tmps).run P w' = .ok (.tuple cvs.toArray) w':=by
         unfold results
         rw [← Ú (xs:=fn.results),ĉ]
         simp only [î,ġ]
         erw [g1]
         simp [hne1]
        have hR:R3 h' hd' s.blk (.tuple cvs.toArray) (.tup us):=by
         simp only [toD] at hy
         cases hm2:aT (iX s.blk) us with
         | none=>simp [hm2] at hy
         | some ys =>
          refine ⟨cvs.toArray,rfl,by simpa using g2,fun j z hz=>?_⟩
          have h3:=g3 j z hz
          have e3:cvs.toArray.getD j undef = cvs.getD j undef:=by simp
          rw [e3]
          obtain ⟨y,y1,y2⟩:=(bP hm2).2 j z hz
          cases z <;> first | exact h3 | cases y2
        have hrd:=aLS r' (us.flatMap (yG s.blk)) hR hy (fun p hp=>hp)
        exact ⟨_,hrun,_,h',rfl,DC hrd hfl h',hLR,r'.h0le,r'.hle,r'.below⟩
       ·cases hfs
      ·cases hfs
    ·cases hfs
   ·cases hfs
  ·cases hfs
 rcases hex with rfl | rfl
 ·exact key
 ·exact key
def X4 (P:Program) (f:Nat):Def->Prop
 | .code _=>True
 | .told o=>∀ ds x,o ds = some x->uJ P f ds x
 | .toldL o=>∀ ds x t,o ds = some x->kG 0 ds = some t->X1 P f ds t x
theorem SE {C:Nat->List D->Option D} (hC:rW P C) (hm:P.follows .mixedOrders = true) {n f:Nat} {fn:Func} {sf:bY} {c:Code} {ds:List D} {x:D} {ex:Ex} {s:St} (hfn:P.funcs[f]? = some fn) (l1:fn.params.size + fn.nfree = sf.np) (l2:fn.name ≠ "runtime.NumGoroutine") (l3:fn.ntmps = sf.nt) (l4:sf.np <= sf.nt) (l5:aT (RT P) fn.results.toList = some sf.results) (l6:fn.body = some c) (l7:P.follows .mixedOrders = true->pU P sf.nt c sf.body) (hnp:ds.length = sf.np)
  (hev:bH C n sf.body ⟨mZ 0 ds,[]⟩ = some (ex,s)) (hfs:GS sf s = some x) (hex:ex = .normal ∨ ex = .ret):uJ P f ds x:=by
 refine ⟨⟨fn,hfn,l2,by rw [l6]; rfl⟩,?_⟩
 intro w h vs hle hvs hrd hG
 refine (callsIn_wide (n:=0)).1 (callsIn_of_wp_marks hfn l6 trivial ?_)
 refine wpIn_wide.2 ?_
 have hvsz:vs.size = sf.np:=by omega
 have r0:Rl sf.nt (cF.of w) h (⟨mZ 0 ds,[]⟩ : St).get (⟨mZ 0 ds,[]⟩ : St).blk { tmps:=vs ++ Array.replicate (fn.ntmps - vs.size) undef,defers:=[] } w h (fun _=>undef):={
  tmps:=by simp; omega
  defers:=rfl
  fixed:=fun i v hF=>by cases hF
  below:=CX.refl _ _
  hle:=hle
  h0le:=Hp.le.refl _
  glob:=hG
  hbase:=fun _ _=>rfl
  frame:=fun t=>by
   have e1:(⟨mZ 0 ds,[]⟩ : St).get t = (match ds[t]? with | some d=>aLx d | none=>.any):=by
    have:=MI ds 0 t
    simpa [St.get] using this
   rw [e1]
   cases hd:ds[t]? with
   | none=>trivial
   | some d =>
    have hlt:t < vs.size:=by rw [hvs]; exact (Å.1 hd).1
    have e2:(vs ++ Array.replicate (fn.ntmps - vs.size) undef).getD t undef = vs.getD t undef:=by
     simp only [É]
     rw [ù hlt]
    simp only [e2]
    exact aEF (hrd t d hd)
  blk:=fun id b hb=>by simp [St.blk,lk] at hb
  sep:=fun i j bi bj g hi=>by simp [St.blk,lk] at hi }
 refine l7 hm _ hC n _ _ _ s ex _ w h _ _ (fun _=>rfl) hev r0 fun b hb Ds a' w1' h' hd' u m r1'=>?_
 have hD:∀ D ∈ Ds,(cF.of w).own D ∧ ¬ b.own D ∧ h' D = none:=fun D hD=>⟨(m.here D hD).1,(m.here D hD).2.1,(r1'.hbase D (m.here D hD).2.1).trans (m.here D hD).2.2.2⟩
 obtain ⟨b',u',r'⟩:=Rl.shut Ds w1' b hb u hD r1'
 have hbe:=r'.un u'
 generalize hsh:shut Ds w1' = w' at r' hbe
 have hbase:∀ b,b < w.heap.size->h' b = h b:=fun b hb=>hbe.2.2 b fun q=>by have:=cF.own_of q; omega
 have hnot:∀ b,b < w.heap.size->¬ (cF.of w).own b:=fun b hb q=>by have:=cF.own_of q; omega
 have hbelow:=hbe.1.below
 have hle0:h.le h':=hbe.2.1
 have key:∃ v,(results fn a'.tmps).run P w' = .ok v w' ∧ ∃ v' h'',(Ending.returned v) = .returned v' ∧ AB (cF.of w) w' h'' v' x ∧ h.le h'' ∧ h''.le (hw w') ∧ (∀ b,b < w.heap.size->h'' b = h b) ∧ Below w.heap.size w w':=by
  unfold GS at hfs
  split at hfs
  ·cases hfs
  ·rename_i v hres
   obtain ⟨cvs,g1,g2,g3⟩:=xP r' fn.results.toList sf.results [v] l5 hres
   match cvs,g2 with
   | [cv],_ =>
    have hv:R3 h' hd' s.blk cv v:=by simpa using g3 0 v rfl
    have hrun:(results fn a'.tmps).run P w' = .ok cv w':=by
     unfold results
     rw [← Ú (xs:=fn.results),ĉ]
     simp only [î,ġ]
     erw [g1]
     simp
    split at hfs
    ·exact ⟨cv,hrun,cv,h',rfl,AB.within u'.own (Z7 r' hv hfs),hle0,r'.hle,hbase,hbelow⟩
    have hrd:a6 (H5 w' h' hd' (yG s.blk v)) cv x:=oL r' _ (by cases v <;> first | exact hv | cases hfs) hfs (fun p hp=>hp)
    exact ⟨cv,hrun,cv,H5 w' h' hd' (yG s.blk v),rfl,hrd.toF,hle0.trans (uK r' _),MN r' _,fun b hb=>(UP r' _ (aCo v) b fun q=>hnot b hb (u'.own b q)).trans (hbase b hb),hbelow⟩
  ·rename_i vs' hne hres
   obtain ⟨cvs,g1,g2,g3⟩:=xP r' fn.results.toList sf.results vs' l5 hres
   have hne1:cvs.length ≠ 1:=by
    intro h1
    rw [g2] at h1
    match vs',h1 with
    | [v],_=>exact hne v rfl
   have hrun:(results fn a'.tmps).run P w' = .ok (.tuple cvs.toArray) w':=by
    unfold results
    rw [← Ú (xs:=fn.results),ĉ]
    simp only [î,ġ]
    erw [g1]
    simp [hne1]
   split at hfs
   ·rename_i hfr
    have hR:R3 h' hd' s.blk (.tuple cvs.toArray) (.tup vs'):=by
     refine ⟨cvs.toArray,rfl,by simpa using g2,fun j z hz=>?_⟩
     have h3:=g3 j z hz
     have e3:cvs.toArray.getD j undef = cvs.getD j undef:=by simp
     rw [e3]
     obtain ⟨y,hy⟩:=aC7 hfs hz
     cases z <;> first | exact h3 | cases hy
    exact ⟨_,hrun,_,h',rfl,AB.within u'.own (Z7 r' hR hfs),hle0,r'.hle,hbase,hbelow⟩
   have hR:R3 h' hd' s.blk (.tuple cvs.toArray) (.tup vs'):=by
    simp only [toD] at hfs
    cases hm2:aT (iX s.blk) vs' with
    | none=>simp [hm2] at hfs
    | some ys =>
     refine ⟨cvs.toArray,rfl,by simpa using g2,fun j z hz=>?_⟩
     have h3:=g3 j z hz
     have e3:cvs.toArray.getD j undef = cvs.getD j undef:=by simp
     rw [e3]
     obtain ⟨y,y1,y2⟩:=(bP hm2).2 j z hz
     cases z <;> first | exact h3 | cases y2
   refine ⟨_,hrun,_,H5 w' h' hd' (vs'.flatMap (yG s.blk)),rfl,(aLS r' _ hR hfs (fun p hp=>hp)).toF,hle0.trans (uK r' _),MN r' _,fun b hb=>(UP r' _ ?_ b fun q=>hnot b hb (u'.own b q)).trans (hbase b hb),hbelow⟩
   exact wX.flatMap vs' fun z=>z
 have post:LeavesInM Fence.wide 0 P fn a'.tmps (fun en w'=>∃ v' h'',en = .returned v' ∧ AB (cF.of w) w' h'' v' x ∧ h.le h'' ∧ h''.le (hw w') ∧ (∀ b,b < w.heap.size->h'' b = h b) ∧ Below w.heap.size w w') a'.defers .returning w1':=by
  rw [show a'.defers = Ds.map aSr from by rw [r1'.defers,m.M]; exact ý _]
  refine RO Ds w1' m.nodup (fun D q=>(r1'.below.block D (m.here D q).2.1).trans (m.here D q).2.2.1) ?_
  rw [hsh]
  exact key
 rcases hex with rfl | rfl
 ·exact post
 ·exact post
theorem JH (T:wF) (hT:∀ f sf,T f = some (.code sf)->∃ fn,P.funcs[f]? = some fn ∧ RB P fn sf) (hO:∀ f d,T f = some d->X4 P f d) (hm:P.follows .mixedOrders = true):∀ (n f:Nat) (ds:List D) (x:D),j9 T n f ds = some x->(kG 0 ds = none->uJ P f ds x) ∧ ∀ t,kG 0 ds = some t->X1 P f ds t x
 | 0,f,ds,x,e=>by cases e
 | n + 1,f,ds,x,e=>by
  simp only [j9] at e
  split at e
  ·cases e
  ·rename_i o ho
   split at e
   ·rename_i hl
    exact ⟨fun _=>hO f (.told o) ho ds x e,fun t ht=>(by rw [hl] at ht; cases ht)⟩
   ·cases e
  ·rename_i o ho
   split at e
   ·rename_i hl
    exact ⟨fun q=>(by rw [q] at hl; cases hl),fun t ht=>hO f (.toldL o) ho ds x t e ht⟩
   ·cases e
  ·rename_i sf hsf
   split at e
   ·rename_i hnp
    obtain ⟨fn,hfn,l1,l2,l3,l4,l5,c,l6,l7,l8⟩:=hT f sf hsf
    cases hla:kG 0 ds with
    | some t =>
     rw [hla] at e
     simp only at e
     refine ⟨fun q=>(by cases q),fun t' ht=>?_⟩
     cases ht
     split at e
     ·rename_i hq
      split at e
      ·rename_i s hs; exact aE4 (JH T hT hO hm n) hm hfn l2 l3 l4 l5 l6 (l8 hq.1) hnp hq.2 hs e (.inl rfl)
      ·rename_i s hs; exact aE4 (JH T hT hO hm n) hm hfn l2 l3 l4 l5 l6 (l8 hq.1) hnp hq.2 hs e (.inr rfl)
      ·cases e
     ·cases e
    | none =>
    rw [hla] at e
    simp only at e
    refine ⟨fun _=>?_,fun t ht=>(by cases ht)⟩
    have hfin:∃ ex s,bH (j9 T n) n sf.body ⟨mZ 0 ds,[]⟩ = some (ex,s) ∧ GS sf s = some x ∧ (ex = .normal ∨ ex = .ret):=by
     split at e
     ·rename_i s hs; exact ⟨_,s,hs,e,.inl rfl⟩
     ·rename_i s hs; exact ⟨_,s,hs,e,.inr rfl⟩
     ·cases e
    obtain ⟨ex,s,hev,hfs,hex⟩:=hfin
    exact SE (JH T hT hO hm n) hm hfn l1 l2 l3 l4 l5 l6 l7 hnp hev hfs hex
   ·cases e
end
end Vm
end
section
namespace Vm
open Go.RowKit
section
variable {P:Program} {nt:Nat} {w0:cF} {h0:Hp}
def aKB (ops:Array Oper) (listed:Array Bool):Prop:=∀ k,listed.getD k false = true->∀ j,((MF ops.toList).getD k 0).testBit j = true->listed.getD j false = true
def aHK (ops:Array Oper) (listed:Array Bool) (M:List Nat):Prop:=∀ i,i ∈ M ↔ i < ops.size ∧ listed.getD i true = false
theorem GF {listed:Array Bool} {j:Nat} (hj:j < listed.size) (h:listed.getD j true = false):listed.getD j false = false:=by
 simp only [É] at h ⊢
 simp [hj] at h ⊢
 exact h
theorem aH9 {listed:Array Bool} {j:Nat} (hj:j < listed.size) (h:listed.getD j true ≠ false):listed.getD j false = true:=by
 simp only [É] at h ⊢
 simp [hj] at h ⊢
 exact h
theorem Q9 {ops:Array Oper} (hok:D9 ops.toList = true) {m:Nat} {M:List Nat} {listed:Array Bool} (hp:(m :: M).Pairwise (· < ·)) (hs:listed.size = ops.size) (hM:aHK ops listed (m :: M)):m ∈ Region.ready .any ops listed:=by
 have hm:=(hM m).1 (by simp)
 obtain ⟨o,ho⟩ : ∃ o,ops[m]? = some o:=⟨ops[m]'hm.1,by simp [hm.1]⟩
 refine mem_ready.2 ⟨hm.2,o,ho,fun e he hb=>?_⟩
 have hlt:e.on < m:=by
  have h4:=Ì.1 hok (o,m) (by
   rw [æ]; exact ⟨m,by simp [ho]⟩)
  have h3:=Ē.1 h4 e he
  simpa [hb] using h3
 refine aH9 (by omega) fun q=>?_
 have hmem:=(hM e.on).2 ⟨by omega,q⟩
 rcases Û.1 hmem with q | q
 ·omega
 ·have:=(Ą.1 hp).1 _ q; omega
theorem W4 {ops:Array Oper} (hok:D9 ops.toList = true) {listed:Array Bool} (hdc:aKB ops listed) {i:Nat} (hi:i ∈ Region.ready .any ops listed):listed.getD i true = false ∧ (∃ o,ops[i]? = some o) ∧ ∀ j,((MF ops.toList).getD i 0).testBit j = true->listed.getD j false = true:=by
 obtain ⟨hun,o,ho,hall⟩:=mem_ready.1 hi
 refine ⟨hun,⟨o,ho⟩,fun j hj=>?_⟩
 obtain ⟨e,he,hb,hje⟩:=aAG ops.toList hok (i:=i) (o:=o) (by simpa using ho) j hj
 have h5:=hall e he hb
 rcases hje with rfl | hje
 ·exact h5
 ·exact hdc _ h5 j hje
theorem aAz {ops:Array Oper} {listed:Array Bool} {A B:List Nat} {i:Nat} (hp:(A ++ i :: B).Pairwise (· < ·)) (hs:listed.size = ops.size) (hM:aHK ops listed (A ++ i :: B)):aHK ops (listed.setIfInBounds i true) (A ++ B):=by
 have hpw:=ø.1 hp
 intro k
 have hnd:k ∈ A ++ B ↔ k ∈ A ++ i :: B ∧ k ≠ i:=by
  have hA:i ∉ A:=fun q=>absurd (hpw.2.2 i q i (by simp)) (by omega)
  have hB:i ∉ B:=fun q=>absurd ((Ą.1 hpw.2.1).1 i q) (by omega)
  simp only [Ó,Û]
  constructor
  ·rintro (q | q)
   ·exact ⟨.inl q,fun e=>hA (e ▸ q)⟩
   ·exact ⟨.inr (.inr q),fun e=>hB (e ▸ q)⟩
  ·rintro ⟨q | q | q,hne⟩
   ·exact .inl q
   ·exact absurd q hne
   ·exact .inr q
 rw [hnd,hM k]
 constructor
 ·rintro ⟨⟨g1,g2⟩,g3⟩; exact ⟨g1,by rw [getD_set_ne true (Ļ g3)]; exact g2⟩
 ·rintro ⟨g1,g2⟩
  have g3:k ≠ i:=by
   rintro rfl
   have hkl:k < listed.size:=by omega
   simp [hkl] at g2
  exact ⟨⟨g1,by rw [getD_set_ne true (Ļ g3)] at g2; exact g2⟩,g3⟩
theorem aBD {ops:Array Oper} {listed:Array Bool} {i:Nat} (hdc:aKB ops listed) (hanc:∀ j,((MF ops.toList).getD i 0).testBit j = true->listed.getD j false = true):aKB ops (listed.setIfInBounds i true):=by
 intro k hk j hj
 by_cases hki:k = i
 ·subst hki; exact getD_set_true (hanc j hj)
 ·rw [getD_set_ne false (Ļ hki)] at hk
  exact getD_set_true (hdc k hk j hj)
theorem aRH {A B:List Nat} {i:Nat} (hp:(A ++ i :: B).Pairwise (· < ·)):(A ++ B).Pairwise (· < ·):=by
 have hpw:=ø.1 hp
 exact ø.2 ⟨hpw.1,(Ą.1 hpw.2.1).2,fun x hx y hy=>hpw.2.2 x hx y (by simp [hy])⟩
theorem aG0 {C:Nat->List D->Option D} (hC:rW P C) {ops:Array Oper} {l:List aY} (hF:U2 w0 ops) (hlow:aT (nQ P nt ops) ops.toList = some (l.map aY.bare)) (hok:D9 ops.toList = true) (fp:Nat->Fp) (hind:∀ p ∈ OI ops.toList,Ind l fp p.1 p.2)
  {c:Nat} {B:List Nat} (hA:∀ j,j < c->((MF ops.toList).getD c 0).testBit j = true) (hB:∀ k ∈ B,((MF ops.toList).getD k 0).testBit c = true) {Q:Exit->Act->World->Prop} {s1:Fn}
  (hcall:∀ (listed:Array Bool) (a:Act) (w:World) (h:Hp) (hd:Nat->Value),listed.size = ops.size->aHK ops listed B->aKB ops listed->Rl nt w0 h0 s1.1 s1.2 a w h hd->wpOp P ops Q c (wpAny P .any ops Q B.length listed) a w) :
  ∀ (fuel:Nat) (A:List Nat) (listed:Array Bool) (s:Fn) (a:Act) (w:World) (h:Hp) (hd:Nat->Value),A.length = fuel->(A ++ c :: B).Pairwise (· < ·)->listed.size = ops.size->aHK ops listed (A ++ c :: B)->aKB ops listed ->
   Rl nt w0 h0 s.1 s.2 a w h hd->tL C l fp A s s1->wpAny P .any ops Q (fuel + (B.length + 1)) listed a w:=by
 intro fuel
 induction fuel with
 | zero =>
  intro A listed s a w h hd hl hp hs hM hdc r hst
  have:A = []:=Í hl
  subst this
  simp only [tL] at hst
  subst hst
  rw [Ċ]
  refine ⟨fun hnil=>?_,fun i hi=>?_⟩
  ·have:=Q9 hok (m:=c) (M:=B) hp hs hM
   rw [hnil] at this; cases this
  ·obtain ⟨g1,⟨o,g2⟩,g3⟩:=W4 hok hdc hi
   have hin:i < ops.size:=(Ï.1 g2).1
   have hiM:=(hM i).2 ⟨hin,g1⟩
   have hc:=(hM c).1 (by simp)
   rcases Û.1 hiM with rfl | hiB
   ·exact hcall _ a w h hd (by simpa using hs) (aAz (A:=[]) hp hs hM) (aBD hdc g3) r
   ·have:=g3 c (hB i hiB)
    rw [GF (by omega) hc.2] at this
    cases this
 | succ fuel ih =>
  intro A listed s a w h hd hl hp hs hM hdc r hst
  rw [show fuel + 1 + (B.length + 1) = (fuel + (B.length + 1)) + 1 by omega]
  have hc:=(hM c).1 (by simp)
  refine ⟨fun hnil=>?_,fun i hi=>?_⟩
  ·match A,hl with
   | m :: A',_ =>
    have:=Q9 hok (m:=m) (M:=A' ++ c :: B) hp hs hM
    rw [hnil] at this; cases this
  ·obtain ⟨g1,⟨o,g2⟩,g3⟩:=W4 hok hdc hi
   have hin:i < ops.size:=(Ï.1 g2).1
   have hiM:=(hM i).2 ⟨hin,g1⟩
   have hpw:=ø.1 hp
   have hiA:i ∈ A:=by
    rcases Ó.1 hiM with q | q
    ·exact q
    rcases Û.1 q with rfl | q
    ·exfalso
     match A,hl with
     | m :: A',_ =>
      have hm:=(hM m).1 (by simp)
      have:=g3 m (hA m (hpw.2.2 m (by simp) i (by simp)))
      rw [GF (by omega) hm.2] at this
      cases this
    ·exfalso
     have:=g3 c (hB i q)
     rw [GF (by omega) hc.2] at this
     cases this
   obtain ⟨A1,A2,rfl⟩:=List.append_of_mem hiA
   have hp' : (A1 ++ i :: (A2 ++ c :: B)).Pairwise (· < ·):=by simpa using hp
   have hM' : aHK ops listed (A1 ++ i :: (A2 ++ c :: B)):=by
    have e:A1 ++ i :: A2 ++ c :: B = A1 ++ i :: (A2 ++ c :: B):=by simp
    rw [← e]; exact hM
   have hpw':=ø.1 hp'
   have hbr:=tL.bring hst (fun j hj=>by
    have hji:j < i:=hpw'.2.2 j hj i (by simp)
    have hjun:listed.getD j true = false:=((hM' j).1 (by simp [hj])).2
    refine hind (j,i) ?_
    simp only [OI]
    refine Î.2 ⟨i,by simpa using hin,Þ.2 ⟨j,ī.2 ⟨by simpa using hji,?_⟩,rfl⟩⟩
    rw [ģ,← Bool.not_eq_true]
    intro hmem
    have:=g3 j hmem
    rw [GF (by omega) hjun] at this
    cases this)
   obtain ⟨so,s2,hso,hstep,hrest⟩:=hbr
   obtain ⟨o',q1,q2⟩:=bU hlow (show (l.map aY.bare)[i]? = some so.bare by simp [hso])
   have:o' = o:=by
    have:ops[i]? = some o':=by simpa using q1
    rw [g2] at this
    exact (ã this).symm
   subst this
   refine R9 hC r hF g2 q2 hstep fun a' w' h' hd' r'=>ih (A1 ++ A2) (listed.setIfInBounds i true) s2 a' w' h' hd' (by simp at hl ⊢; omega) ?_ (by simpa using hs) ?_ (aBD hdc g3) r' hrest
   ·have:=aRH hp'
    simpa using this
   ·have:=aAz hp' hs hM'
    have e:A1 ++ A2 ++ c :: B = A1 ++ (A2 ++ c :: B):=by simp
    rw [e]; exact this
theorem tL.wide {C:Nat->List D->Option D} {l L:List aY} {fp fq:Nat->Fp}:∀ {M:List Nat} {s s' : Fn},(∀ i ∈ M,l[i]? = L[i]? ∧ fp i = fq i)->tL C l fp M s s'->tL C L fq M s s'
 | [],s,s',_,h=>h
 | i :: M,s,s',hi,⟨o,s1,g1,g2,g3⟩=>by
  obtain ⟨e1,e2⟩:=hi i (by simp)
  exact ⟨o,s1,e1 ▸ g1,e2 ▸ g2,tL.wide (fun k hk=>hi k (by simp [hk])) g3⟩
theorem HG {C:Nat->List D->Option D} {l:List aY} {pairs:List (Nat × Nat)} {s s' : St} (hr:fG C l (some pairs) s = some s'):∃ ps,iP C l s = some (s',ps) ∧ ∀ p ∈ pairs,∀ x y,l[p.1]? = some x->l[p.2]? = some y->ind x y (ps.getD p.1 ([],[])) (ps.getD p.2 ([],[])) = true:=by
 simp only [fG] at hr
 split at hr
 ·rename_i s2 ps hps
  split at hr
  ·rename_i hap
   cases hr
   refine ⟨ps,hps,fun p hp x y hx hy=>?_⟩
   have:=Ì.1 hap p hp
   obtain ⟨i,j⟩:=p
   simp only at hx hy this ⊢
   rw [hx,hy] at this
   have hpl:=I3 hps
   have hi:=(Å.1 hx).1
   have hj:=(Å.1 hy).1
   have hi' : i < ps.length:=by omega
   have hj' : j < ps.length:=by omega
   have e1:ps[i]? = some (ps.getD i ([],[])):=by simp [List.getD,hi']
   have e2:ps[j]? = some (ps.getD j ([],[])):=by simp [List.getD,hj']
   rw [e1,e2] at this
   exact this
  ·cases hr
 ·cases hr
theorem T7 {nt rid:Nat} {rops:Array Oper} {ops ops2:List aY} {dst:Option Nat} {f:Nat} {x:bO} {nc:Nat} {args:List bO} {body:aP} {res:List kT} {id:Nat} {slots:List Nat} {fn:Func} {c' : Code} {ps1 ps2:List (Nat × Nat)} (hm:P.follows .mixedOrders = true)
  (hlow:aT (nQ P nt rops) rops.toList = some (ops.map aY.bare ++ ⟨dst,.callv x args,none,dst.getD 0⟩ :: ops2.map aY.bare)) (hok:D9 rops.toList = true)
  (hloose:((OI rops.toList).all fun p=>(decide (p.1 < ops.length ∧ p.2 < ops.length) && ps1.contains p) || (decide (ops.length < p.1 ∧ ops.length < p.2) && ps2.contains (p.1 - (ops.length + 1),p.2 - (ops.length + 1)))) = true)
  (hA:((List.range ops.length).all fun j=>((MF rops.toList).getD ops.length 0).testBit j) = true) (hB:((List.range ops2.length).all fun k=>((MF rops.toList).getD (ops.length + 1 + k) 0).testBit ops.length) = true)
  (hfn:P.funcs[f]? = some fn) (l2:fn.name ≠ "runtime.NumGoroutine") (l6:fn.body = some c') (l3:args.length + nc <= fn.ntmps) (l5:aT (RT P) fn.results.toList = some res)
  (hb:aK P fn.ntmps c' body):aK P nt (.region rid rops true) (.seq (.region ops (some ps1)) (.seq (.inlv [] x nc args dst f body res id slots) (.region ops2 (some ps2)))):=by
 intro C hC n w0 h0 s s' ex a w h hd Q hF he r hQ
 have hOF:U2 w0 rops:=fun _ _ d _=>hF d
 have hlen:rops.size = ops.length + (ops2.length + 1):=by
  have:=(bP hlow).1
  simp only [ß,â,Ø] at this
  have h2:rops.toList.length = rops.size:=rfl
  omega
 have hlow' : aT (nQ P nt rops) rops.toList = some ((ops ++ ⟨dst,.callv x args,none,dst.getD 0⟩ :: ops2).map aY.bare):=by
  rw [hlow,Ă,á]
  rfl
 rw [bH] at he
 cases hr1:fG C ops (some ps1) s with
 | none=>simp only [bH,hr1] at he; cases he
 | some s1 =>
 have e1:bH C n (.region ops (some ps1)) s = some (.normal,s1):=by simp only [bH,hr1]
 rw [e1] at he
 simp only at he
 rw [bH] at he
 cases hi:bH C n (.inlv [] x nc args dst f body res id slots) s1 with
 | none=>rw [hi] at he; cases he
 | some p =>
 obtain ⟨ei,s4⟩:=p
 have hi2:=hi
 simp only [bH] at hi2
 split at hi2
 ·cases hi2
 rename_i s1' hs1'
 have:s1' = s1:=(ã (show some s1 = some s1' from hs1')).symm
 subst this
 split at hi2
 ·cases hi2
 rename_i caps hcaps
 split at hi2
 ·cases hi2
 rename_i s2 hs2
 have hfin:∃ ex' s3,bH C n body s2 = some (ex',s3) ∧ mS dst res id slots s3 = some s4 ∧ ei = .normal ∧ (ex' = .normal ∨ ex' = .ret):=by
  split at hi2
  ·rename_i s3 h3
   obtain ⟨s5,q1,q2⟩:=Á.1 hi2
   cases q2
   exact ⟨_,s3,h3,q1,rfl,.inl rfl⟩
  ·rename_i s3 h3
   obtain ⟨s5,q1,q2⟩:=Á.1 hi2
   cases q2
   exact ⟨_,s3,h3,q1,rfl,.inr rfl⟩
  ·cases hi2
 obtain ⟨ex',s3,hev,hout,rfl,hex⟩:=hfin
 rw [hi] at he
 simp only [bH] at he
 cases hr2:fG C ops2 (some ps2) s4 with
 | none=>rw [hr2] at he; cases he
 | some s5 =>
 rw [hr2] at he
 cases he
 obtain ⟨p1,hp1,hi1⟩:=HG hr1
 obtain ⟨p2,hp2,hi2'⟩:=HG hr2
 let fp:Nat->Fp:=fun i=>if i < ops.length then p1.getD i ([],[]) else p2.getD (i - (ops.length + 1)) ([],[])
 have hst1:tL C (ops ++ ⟨dst,.callv x args,none,dst.getD 0⟩ :: ops2) fp (List.range ops.length) s.fn s1'.fn:=by
  have:=rT ops (fun i=>p1.getD i ([],[])) (k:=0) (fun i=>by simp) (fun i _=>by simp) hp1
  have e0:(List.range ops.length).map (0 + ·) = List.range ops.length:=by simp
  rw [e0] at this
  refine tL.wide (fun i hi=>?_) this
  have hi:=č.1 hi
  exact ⟨by rw [à hi],by simp only [fp]; rw [Â hi]⟩
 have hst2:tL C (ops ++ ⟨dst,.callv x args,none,dst.getD 0⟩ :: ops2) fp ((List.range ops2.length).map (ops.length + 1 + ·)) s4.fn s'.fn :=
  rT (ops ++ ⟨dst,.callv x args,none,dst.getD 0⟩ :: ops2) fp (k:=ops.length + 1) (fun i=>by
   rw [å (by omega),show ops.length + 1 + i - ops.length = i + 1 by omega,é]) (fun i _=>by
   simp only [fp]
   rw [Ã (by omega),ı]) hp2
 have hind:∀ p ∈ OI rops.toList,Ind (ops ++ ⟨dst,.callv x args,none,dst.getD 0⟩ :: ops2) fp p.1 p.2:=by
  intro p hp x y hx hy
  have:=Ì.1 hloose p hp
  rw [Bool.or_eq_true,ë,ë,Ñ,Ñ] at this
  rcases this with ⟨⟨g1,g2⟩,g3⟩ | ⟨⟨g1,g2⟩,g3⟩
  ·rw [à g1] at hx
   rw [à g2] at hy
   have:=hi1 p (by simpa using g3) x y hx hy
   simp only [fp]
   rw [Â g1,Â g2]
   exact this
  ·rw [å (by omega),show p.1 - ops.length = (p.1 - (ops.length + 1)) + 1 by omega,é] at hx
   rw [å (by omega),show p.2 - ops.length = (p.2 - (ops.length + 1)) + 1 by omega,é] at hy
   have:=hi2' (p.1 - (ops.length + 1),p.2 - (ops.length + 1)) (by simpa using g3) x y hx hy
   simp only [fp]
   rw [Ã (by omega),Ã (by omega)]
   exact this
 have hpwB:((List.range ops2.length).map (ops.length + 1 + ·)).Pairwise (· < ·):=List.pairwise_map.2 (List.pairwise_lt_range.imp fun h=>by omega)
 have hBl:((List.range ops2.length).map (ops.length + 1 + ·)).length = ops2.length:=by simp
 refine wp_region_any hm ?_
 have key:=aG0 hC hOF hlow' hok fp hind (c:=ops.length) (B:=(List.range ops2.length).map (ops.length + 1 + ·)) (Q:=Q) (s1:=s1'.fn)
  (fun j hj=>Ì.1 hA j (č.2 hj)) (fun k hk=>by
   obtain ⟨q,hq,rfl⟩:=Þ.1 hk
   exact Ì.1 hB q hq)
  (fun listed a1 w1 h1 hd1 g1 g2 g3 r1=>by
   have hcv:bN s1'.get x = .fn f caps ∧ caps.length = nc:=by
    unfold EU at hcaps
    split at hcaps
    ·rename_i g cs hg
     split at hcaps
     ·rename_i q
      cases hcaps
      obtain ⟨rfl,q2⟩:=q
      exact ⟨hg,q2⟩
     ·cases hcaps
    ·cases hcaps
   have hs2' : GX (args.map (bN s1'.get) ++ caps) id slots s1' = some s2:=hs2
   refine aMz (lop:=.callv x args) hC hlow (by simp) hfn l6 (by rw [ß,â,hcv.2]; exact l3) l5 hb hF r1 hs2' hev hout hex ?_ fun a' w' h' hd' r'=>?_
   ·intro o a1 w1 h1 hd1 g1 r1
    obtain ⟨c,y,hop,hcal,hy,hl⟩:=Q1 g1
    obtain ⟨m1,m2⟩:=bP hl
    have hfv:=bC r1.globs r1.frame hy
    rw [hcv.1] at hfv
    obtain ⟨arr,hge,hgs,hgr⟩ : ∃ arr:Array Value,a1.eval y = .func (.func f) #[] arr ∧ arr.size = caps.length ∧ ∀ j x,caps[j]? = some x->RC hd1 s1'.blk (arr.getD j undef) x:=hfv
    have hsz:(c.args.map a1.eval).size = (args.map (bN s1'.get)).length:=by simpa using m1
    refine ⟨c.args.map a1.eval ++ arr,by rw [ę,ß,hsz,hgs],fun j z hz=>?_,?_⟩
    ·rw [List.getElem?_append] at hz
     split at hz
     ·rename_i hlt
      rw [Ç,Á] at hz
      obtain ⟨u,hu,rfl⟩:=hz
      obtain ⟨q,x1,x2⟩:=bU hl hu
      have x1' : c.args[j]? = some q:=by simpa using x1
      have e3:(c.args.map a1.eval ++ arr).getD j undef = a1.eval q:=by
       simp only [É]
       rw [ù (by omega)]
       simp [x1']
      rw [e3]
      exact bC r1.globs r1.frame x2
     ·rename_i hlt
      have e3:(c.args.map a1.eval ++ arr).getD j undef = arr.getD (j - (args.map (bN s1'.get)).length) undef:=by
       simp only [É]
       rw [Ě (by omega),hsz]
      rw [e3]
      have hrc:=hgr _ z hz
      cases z with
      | ptr i off=>exact hrc
      | _=>exact hrc.elim
    ·simp [execOp,hop,resolve,hcal,hge,Deferred.ofValue,invoke,callFunc,hfn,l2,l6]
   ·exact aAM hC hOF hlow' hok fp hind (s':=s'.fn) (fun a2 w2 h2 hd2 r2=>hQ _ _ h2 hd2 r2) _ _ listed s4.fn a' w' h' hd' rfl hpwB g1 g2 g3 r' hst2)
  ops.length (List.range ops.length) (Array.replicate rops.size false) s.fn a _ h hd (by simp) ?_ (by simp) ?_ ?_ r.drew hst1
 ·rw [hBl] at key
  rw [show rops.size = ops.length + (ops2.length + 1) from hlen]
  rw [hlen] at key
  exact key
 ·refine ø.2 ⟨ĳ,Ą.2 ⟨fun x hx=>?_,hpwB⟩,fun x hx y hy=>?_⟩
  ·obtain ⟨q,_,rfl⟩:=Þ.1 hx
   omega
  ·have:=č.1 hx
   rcases Û.1 hy with rfl | hy
   ·omega
   ·obtain ⟨q,_,rfl⟩:=Þ.1 hy
    omega
 ·intro i
  have hrep:i < rops.size->(Array.replicate rops.size false).getD i true = false:=fun q=>by simp [q]
  simp only [Ó,č,Û,Þ]
  constructor
  ·intro q
   have:i < rops.size:=by
    rcases q with q | q | ⟨z,q1,q2⟩ <;> omega
   exact ⟨this,hrep this⟩
  ·rintro ⟨q,_⟩
   by_cases c1:i < ops.length
   ·exact .inl c1
   ·by_cases c2:i = ops.length
    ·exact .inr (.inl c2)
    ·exact .inr (.inr ⟨i - (ops.length + 1),by omega,by omega⟩)
 ·intro k hk
  exfalso
  simp only [É,Į] at hk
  split at hk <;> simp at hk
end
end Vm
end
section
namespace Vm
open Go.RowKit
noncomputable def lim {α:Type} (g:Nat->Option α):Option α:=@dite _ (∃ n x,g n = some x) (Classical.propDecidable _) (fun h=>some h.choose_spec.choose) (fun _=>none)
def aVA {α:Type} (g:Nat->Option α):Prop:=∀ n m x,n <= m->g n = some x->g m = some x
theorem XQ {α:Type} {g:Nat->Option α} (hg:aVA g) {x:α}:lim g = some x ↔ ∃ n,g n = some x:=by
 unfold lim
 split
 ·rename_i h
  have hs:=h.choose_spec.choose_spec
  constructor
  ·intro e; cases e; exact ⟨_,hs⟩
  ·rintro ⟨n,hn⟩
   have h1:=hg _ (max h.choose n) _ (ė _ _) hs
   have h2:=hg _ (max h.choose n) _ (ą _ _) hn
   rw [h1] at h2
   exact h2
 ·rename_i h
  constructor
  ·intro e; cases e
  ·rintro ⟨n,hn⟩; exact absurd ⟨n,x,hn⟩ h
theorem tT {α:Type} {a b:Option α} (h:∀ x,a = some x ↔ b = some x):a = b:=by
 cases a with
 | none=>cases b with
  | none=>rfl
  | some y=>have:=(h y).2 rfl; cases this
 | some x=>exact ((h x).1 rfl).symm
def CLe (C D:Nat->List Vm.D->Option Vm.D):Prop:=∀ f ds x,C f ds = some x->D f ds = some x
section
variable {C C' : Nat->List D->Option D}
theorem aLc (hc:CLe C C') {site:Nat} {ev:bO->V} {bl:Nat->Option aO} {so:fT} {r:V × List (Nat × Option aO)} (e:cE C site ev bl so = some r):cE C' site ev bl so = some r:=by
 cases so with
 | call f args =>
  simp only [cE] at e ⊢
  split at e
  ·cases e
  ·split at e
   ·cases e
   ·rename_i x hx
    rw [hc _ _ _ hx]
    exact e
 | callv g args =>
  simp only [cE] at e ⊢
  split at e
  ·split at e
   ·cases e
   ·split at e
    ·cases e
    ·rename_i x hx
     rw [hc _ _ _ hx]
     exact e
  ·cases e
 | calln f args =>
  simp only [cE] at e ⊢
  split at e
  ·cases e
  ·split at e
   ·rename_i hx
    rw [hc _ _ _ hx]
    exact e
   ·cases e
 | lend f args t =>
  simp only [cE] at e ⊢
  split at e
  ·split at e
   ·cases e
   ·split at e
    ·rename_i hn
     rw [Â hn]
     split at e
     ·rename_i hx
      rw [hc _ _ _ hx]
      exact e
     ·cases e
    ·cases e
  ·cases e
 | _=>exact e
theorem QZ (hc:CLe C C') {o:aY} {s:St} {r:St × Fp} (e:j7 C o s = some r):j7 C' o s = some r:=by
 unfold j7 at e ⊢
 split at e
 ·split at e
  ·rename_i v wr ha
   rw [aLc hc ha]; exact e
  ·cases e
 ·exact e
 ·cases e
theorem CO (hc:CLe C C'):∀ {l:List aY} {s:St} {r:St × List Fp},iP C l s = some r->iP C' l s = some r
 | [],s,r,e=>e
 | o :: l,s,r,e=>by
  simp only [iP] at e ⊢
  split at e
  ·rename_i s' p h1
   rw [QZ hc h1]
   split at e
   ·rename_i s'' ps h2
    simp only [CO hc h2]
    exact e
   ·cases e
  ·cases e
theorem aGp (o:aY) (s:St):BG C o s = (j7 C o s).map (·.1):=by
 unfold BG j7
 cases o.wants s.get with
 | run =>
  simp only
  cases cE C o.site (bN s.get) s.blk o.op with
  | none=>rfl
  | some r=>rfl
 | skip=>rfl
 | bad=>rfl
theorem LW:∀ (l:List aY) (s:St),j5 C l s = (iP C l s).map (·.1)
 | [],s=>rfl
 | o :: l,s=>by
  simp only [j5,iP,aGp]
  cases j7 C o s with
  | none=>rfl
  | some r =>
   obtain ⟨s',p⟩:=r
   simp only [Ù,LW l s']
   cases iP C l s' with
   | none=>rfl
   | some q=>rfl
theorem kV (hc:CLe C C') {l:List aY} {d:Option (List (Nat × Nat))} {s s' : St} (e:fG C l d s = some s'):fG C' l d s = some s':=by
 cases d with
 | none =>
  simp only [fG,LW,Á] at e ⊢
  obtain ⟨r,h1,h2⟩:=e
  exact ⟨r,CO hc h1,h2⟩
 | some ps =>
  simp only [fG] at e ⊢
  split at e
  ·rename_i h1
   rw [CO hc h1]; exact e
  ·cases e
theorem G1 {f g:St->Option (Ex × St)} (h:∀ s r,f s = some r->g s = some r):∀ {n m:Nat} {s:St} {r:Ex × St},n <= m->BH f n s = some r->BH g m s = some r
 | 0,m,s,r,_,e=>by cases e
 | n + 1,0,s,r,hle,e=>by omega
 | n + 1,m + 1,s,r,hle,e=>by
  simp only [BH] at e ⊢
  cases hf:f s with
  | none=>rw [hf] at e; cases e
  | some q =>
   obtain ⟨ex,s'⟩:=q
   rw [hf] at e
   rw [h s _ hf]
   cases ex with
   | normal=>exact G1 h (by omega) e
   | exit id=>exact e
   | ret=>exact e
theorem mN (hc:CLe C C') {n m:Nat} (hnm:n <= m):∀ (c:aP) (s:St) (r:Ex × St),bH C n c s = some r->bH C' m c s = some r:=by
 intro c
 induction c with
 | skip=>exact fun s r e=>e
 | region ops d =>
  intro s r e
  simp only [bH] at e ⊢
  split at e
  ·rename_i h1; rw [kV hc h1]; exact e
  ·cases e
 | seq a b iha ihb =>
  intro s r e
  simp only [bH] at e ⊢
  cases ha:bH C n a s with
  | none=>rw [ha] at e; cases e
  | some q =>
   obtain ⟨ex,s'⟩:=q
   rw [ha] at e
   rw [iha s _ ha]
   cases ex with
   | normal=>exact ihb _ _ e
   | exit id=>exact e
   | ret=>exact e
 | cond c a b iha ihb =>
  intro s r e
  simp only [bH] at e ⊢
  split at e
  ·exact iha _ _ e
  ·exact ihb _ _ e
  ·cases e
 | block id a iha =>
  intro s r e
  simp only [bH] at e ⊢
  cases ha:bH C n a s with
  | none=>rw [ha] at e; cases e
  | some q=>rw [ha] at e; rw [iha s _ ha]; exact e
 | loop a iha =>
  intro s r e
  simp only [bH] at e ⊢
  exact G1 iha hnm e
 | exit id=>exact fun s r e=>e
 | ret=>exact fun s r e=>e
 | hand g=>exact fun s r e=>e
 | inl ops args dst f body res id slots ih =>
  intro s r e
  simp only [bH] at e ⊢
  split at e
  ·cases e
  ·rename_i s1 h1
   have h1' : j5 C' ops s = some s1:=kV (d:=none) hc h1
   rw [h1']
   simp only
   split at e
   ·cases e
   ·rename_i s2 h2
    cases hb:bH C n body s2 with
    | none=>rw [hb] at e; cases e
    | some q=>rw [hb] at e; simp only [ih s2 _ hb]; exact e
 | inlv ops x nc args dst f body res id slots ih =>
  intro s r e
  simp only [bH] at e ⊢
  split at e
  ·cases e
  ·rename_i s1 h1
   have h1' : j5 C' ops s = some s1:=kV (d:=none) hc h1
   rw [h1']
   simp only
   split at e
   ·cases e
   ·rename_i caps hcaps
    split at e
    ·cases e
    ·rename_i s2 h2
     cases hb:bH C n body s2 with
     | none=>rw [hb] at e; cases e
     | some q=>rw [hb] at e; simp only [ih s2 _ hb]; exact e
 | pre m' a iha=>exact fun s r e=>iha _ _ e
 | post a m' iha =>
  intro s r e
  simp only [bH] at e ⊢
  cases ha:bH C n a s with
  | none=>rw [ha] at e; cases e
  | some q=>rw [ha] at e; rw [iha s _ ha]; exact e
end
theorem NA (T:wF):∀ (n f:Nat) (ds:List D) (x:D),j9 T n f ds = some x->j9 T (n + 1) f ds = some x
 | 0,f,ds,x,e=>by cases e
 | n + 1,f,ds,x,e=>by
  rw [j9] at e ⊢
  cases hT:T f with
  | none=>rw [hT] at e; cases e
  | some d =>
   rw [hT] at e
   cases d with
   | told o=>exact e
   | toldL o=>exact e
   | code sf =>
   simp only at e ⊢
   split at e
   ·rename_i hl
    rw [Â hl]
    cases hla:kG 0 ds with
    | none =>
     rw [hla] at e
     simp only at e ⊢
     cases he:bH (j9 T n) n sf.body ⟨mZ 0 ds,[]⟩ with
     | none=>rw [he] at e; cases e
     | some q =>
      rw [he] at e
      rw [mN (NA T n) (Ģ n) _ _ _ he]
      exact e
    | some t =>
     rw [hla] at e
     simp only at e ⊢
     split at e
     ·rename_i hq
      rw [Â hq]
      cases he:bH (j9 T n) n sf.body (LL t ds) with
      | none=>rw [he] at e; cases e
      | some q =>
       rw [he] at e
       rw [mN (NA T n) (Ģ n) _ _ _ he]
       exact e
     ·cases e
   ·cases e
theorem i9 (T:wF) {n m:Nat} (h:n <= m):CLe (j9 T n) (j9 T m):=by
 induction h with
 | refl=>exact fun _ _ _ e=>e
 | step _ ih=>exact fun f ds x e=>NA T _ f ds x (ih f ds x e)
noncomputable def call (T:wF) (f:Nat) (ds:List D):Option D:=lim fun n=>j9 T n f ds
noncomputable def ev (T:wF) (c:aP) (s:St):Option (Ex × St):=lim fun n=>bH (j9 T n) n c s
theorem yS {T:wF} {f:Nat} {ds:List D} {x:D}:call T f ds = some x ↔ ∃ n,j9 T n f ds = some x:=XQ fun _ _ _ h e=>i9 T h _ _ _ e
theorem gK {T:wF} {c:aP} {s:St} {r:Ex × St}:ev T c s = some r ↔ ∃ n,bH (j9 T n) n c s = some r:=XQ fun _ _ _ h e=>mN (i9 T h) h _ _ _ e
theorem aDU {P:Program} {T:wF} (hT:∀ f sf,T f = some (.code sf)->∃ fn,P.funcs[f]? = some fn ∧ RB P fn sf) (hO:∀ f d,T f = some d->X4 P f d) (hm:P.follows .mixedOrders = true) {f:Nat} {ds:List D} {x:D} (e:call T f ds = some x) (hl:kG 0 ds = none):uJ P f ds x:=by
 obtain ⟨n,hn⟩:=yS.1 e
 exact (JH T hT hO hm n f ds x hn).1 hl
section
variable {T:wF}
theorem SL (n:Nat):CLe (j9 T n) (call T):=fun f ds x e=>yS.2 ⟨n,e⟩
theorem aQj {site:Nat} {evv:bO->V} {bl:Nat->Option aO} {so:fT} {r:V × List (Nat × Option aO)} (e:cE (call T) site evv bl so = some r):∃ n,cE (j9 T n) site evv bl so = some r:=by
 cases so with
 | call f args =>
  simp only [cE] at e ⊢
  split at e
  ·cases e
  ·rename_i ds hds
   split at e
   ·cases e
   ·rename_i x hx
    obtain ⟨n,hn⟩:=yS.1 hx
    exact ⟨n,by rw [hn]; exact e⟩
 | callv g args =>
  simp only [cE] at e ⊢
  split at e
  ·split at e
   ·cases e
   ·split at e
    ·cases e
    ·rename_i x hx
     obtain ⟨n,hn⟩:=yS.1 hx
     exact ⟨n,by rw [hn]; exact e⟩
  ·cases e
 | calln f args =>
  simp only [cE] at e ⊢
  split at e
  ·cases e
  ·rename_i ds hds
   split at e
   ·rename_i hx
    obtain ⟨n,hn⟩:=yS.1 hx
    exact ⟨n,by rw [hn]; exact e⟩
   ·cases e
 | lend f args t =>
  simp only [cE] at e ⊢
  split at e
  ·split at e
   ·cases e
   ·split at e
    ·rename_i hq
     simp only [Â hq]
     split at e
     ·rename_i hx
      obtain ⟨n,hn⟩:=yS.1 hx
      exact ⟨n,by rw [hn]; exact e⟩
     ·cases e
    ·cases e
  ·cases e
 | _=>exact ⟨0,e⟩
theorem aDB {o:aY} {s:St} {r:St × Fp} (e:j7 (call T) o s = some r):∃ n,j7 (j9 T n) o s = some r:=by
 unfold j7 at e ⊢
 split at e
 ·split at e
  ·rename_i v wr ha
   obtain ⟨n,hn⟩:=aQj ha
   exact ⟨n,by rw [hn]; exact e⟩
  ·cases e
 ·exact ⟨0,e⟩
 ·cases e
theorem I5:∀ {l:List aY} {s:St} {r:St × List Fp},iP (call T) l s = some r->∃ n,iP (j9 T n) l s = some r
 | [],s,r,e=>⟨0,e⟩
 | o :: l,s,r,e=>by
  simp only [iP] at e ⊢
  split at e
  ·rename_i s' p h1
   split at e
   ·rename_i s'' ps h2
    obtain ⟨n1,g1⟩:=aDB h1
    obtain ⟨n2,g2⟩:=I5 h2
    refine ⟨max n1 n2,?_⟩
    rw [QZ (i9 T (ė n1 n2)) g1]
    simp only [CO (i9 T (ą n1 n2)) g2]
    exact e
   ·cases e
  ·cases e
theorem BC {l:List aY} {d:Option (List (Nat × Nat))} {s s' : St}:fG (call T) l d s = some s' ↔ ∃ n,fG (j9 T n) l d s = some s':=by
 constructor
 ·intro e
  cases d with
  | none =>
   simp only [fG,LW,Á] at e ⊢
   obtain ⟨r,h1,h2⟩:=e
   obtain ⟨n,hn⟩:=I5 h1
   exact ⟨n,r,hn,h2⟩
  | some ps =>
   simp only [fG] at e ⊢
   split at e
   ·rename_i h1
    obtain ⟨n,hn⟩:=I5 h1
    exact ⟨n,by rw [hn]; exact e⟩
   ·cases e
 ·rintro ⟨n,hn⟩; exact kV (SL n) hn
theorem aNj (s:St):ev T .skip s = some (.normal,s):=gK.2 ⟨0,rfl⟩
theorem aQq (id:Nat) (s:St):ev T (.exit id) s = some (.exit id,s):=gK.2 ⟨0,rfl⟩
theorem aEV (g:St->Option St) (s:St):ev T (.hand g) s = (g s).map fun s'=>(.normal,s'):=by
 refine tT fun x=>?_
 rw [gK]
 have e:∀ n,bH (j9 T n) n (.hand g) s = (g s).map fun s'=>(.normal,s'):=fun n=>by simp only [bH]; cases g s <;> rfl
 simp only [e]
 exact ⟨fun ⟨_,h⟩=>h,fun h=>⟨0,h⟩⟩
theorem aRt (ops:List aY) (args:List bO) (dst:Option Nat) (f:Nat) (body:aP) (res:List kT) (id:Nat) (slots:List Nat) (s:St):ev T (.inl ops args dst f body res id slots) s = (match j5 (call T) ops s with
  | none=>none
  | some s1=>match WT args id slots s1 with
   | none=>none
   | some s2=>match ev T body s2 with
    | some (.normal,s3)=>(mS dst res id slots s3).map fun s4=>(.normal,s4)
    | some (.ret,s3)=>(mS dst res id slots s3).map fun s4=>(.normal,s4)
    | _=>none):=by
 refine tT fun r=>?_
 rw [gK]
 constructor
 ·rintro ⟨n,hn⟩
  simp only [bH] at hn
  split at hn
  ·cases hn
  ·rename_i s1 h1
   have h1' : j5 (call T) ops s = some s1:=kV (d:=none) (SL n) h1
   rw [h1']
   simp only
   split at hn
   ·cases hn
   ·rename_i s2 h2
    cases hb:bH (j9 T n) n body s2 with
    | none=>rw [hb] at hn; cases hn
    | some q=>rw [hb] at hn; simp only [h2,gK.2 ⟨n,hb⟩]; exact hn
 ·intro e
  split at e
  ·cases e
  ·rename_i s1 h1
   obtain ⟨n1,g1⟩:=(BC (l:=ops) (d:=none)).1 h1
   split at e
   ·cases e
   ·rename_i s2 h2
    cases hb:ev T body s2 with
    | none=>rw [hb] at e; cases e
    | some q =>
     rw [hb] at e
     obtain ⟨n2,g2⟩:=gK.1 hb
     refine ⟨max n1 n2,?_⟩
     have g1' : j5 (j9 T (max n1 n2)) ops s = some s1:=kV (d:=none) (i9 T (ė n1 n2)) g1
     have g2':=mN (i9 T (ą n1 n2)) (ą n1 n2) _ _ _ g2
     simp only [bH,g1',h2,g2']
     exact e
theorem aNN (ops:List aY) (x:bO) (nc:Nat) (args:List bO) (dst:Option Nat) (f:Nat) (body:aP) (res:List kT) (id:Nat) (slots:List Nat) (s:St):ev T (.inlv ops x nc args dst f body res id slots) s = (match j5 (call T) ops s with
  | none=>none
  | some s1=>match EU f nc (bN s1.get x) with
   | none=>none
   | some caps=>match GX (args.map (bN s1.get) ++ caps) id slots s1 with
    | none=>none
    | some s2=>match ev T body s2 with
     | some (.normal,s3)=>(mS dst res id slots s3).map fun s4=>(.normal,s4)
     | some (.ret,s3)=>(mS dst res id slots s3).map fun s4=>(.normal,s4)
     | _=>none):=by
 refine tT fun r=>?_
 rw [gK]
 constructor
 ·rintro ⟨n,hn⟩
  simp only [bH] at hn
  split at hn
  ·cases hn
  ·rename_i s1 h1
   have h1' : j5 (call T) ops s = some s1:=kV (d:=none) (SL n) h1
   rw [h1']
   simp only
   split at hn
   ·cases hn
   ·rename_i caps hcaps
    split at hn
    ·cases hn
    ·rename_i s2 h2
     cases hb:bH (j9 T n) n body s2 with
     | none=>rw [hb] at hn; cases hn
     | some q=>rw [hb] at hn; simp only [hcaps,h2,gK.2 ⟨n,hb⟩]; exact hn
 ·intro e
  split at e
  ·cases e
  ·rename_i s1 h1
   obtain ⟨n1,g1⟩:=(BC (l:=ops) (d:=none)).1 h1
   split at e
   ·cases e
   ·rename_i caps hcaps
    split at e
    ·cases e
    ·rename_i s2 h2
     cases hb:ev T body s2 with
     | none=>rw [hb] at e; cases e
     | some q =>
      rw [hb] at e
      obtain ⟨n2,g2⟩:=gK.1 hb
      refine ⟨max n1 n2,?_⟩
      have g1' : j5 (j9 T (max n1 n2)) ops s = some s1:=kV (d:=none) (i9 T (ė n1 n2)) g1
      have g2':=mN (i9 T (ą n1 n2)) (ą n1 n2) _ _ _ g2
      simp only [bH,g1',hcaps,h2,g2']
      exact e
theorem aSq (s:St):ev T .ret s = some (.ret,s):=gK.2 ⟨0,rfl⟩
theorem VZ (l:List aY) (d:Option (List (Nat × Nat))) (s:St):ev T (.region l d) s = (fG (call T) l d s).map fun s'=>(.normal,s'):=by
 refine tT fun r=>?_
 rw [gK,Á]
 constructor
 ·rintro ⟨n,hn⟩
  simp only [bH] at hn
  split at hn
  ·rename_i s' h1; cases hn; exact ⟨s',BC.2 ⟨n,h1⟩,rfl⟩
  ·cases hn
 ·rintro ⟨s',h1,rfl⟩
  obtain ⟨n,hn⟩:=BC.1 h1
  exact ⟨n,by simp only [bH,hn]⟩
theorem aR0 (a b:aP) (s:St):ev T (.seq a b) s = (match ev T a s with | some (.normal,s')=>ev T b s' | r=>r):=by
 refine tT fun r=>?_
 rw [gK]
 constructor
 ·rintro ⟨n,hn⟩
  simp only [bH] at hn
  cases ha:bH (j9 T n) n a s with
  | none=>rw [ha] at hn; cases hn
  | some q =>
   obtain ⟨ex,s'⟩:=q
   rw [ha] at hn
   rw [gK.2 ⟨n,ha⟩]
   cases ex with
   | normal=>exact gK.2 ⟨n,hn⟩
   | exit id=>exact hn
   | ret=>exact hn
 ·intro e
  cases ha:ev T a s with
  | none=>rw [ha] at e; cases e
  | some q =>
   obtain ⟨ex,s'⟩:=q
   rw [ha] at e
   obtain ⟨n1,g1⟩:=gK.1 ha
   cases ex with
   | normal =>
    obtain ⟨n2,g2⟩:=gK.1 e
    refine ⟨max n1 n2,?_⟩
    simp only [bH,mN (i9 T (ė n1 n2)) (ė n1 n2) _ _ _ g1]
    exact mN (i9 T (ą n1 n2)) (ą n1 n2) _ _ _ g2
   | exit id=>exact ⟨n1,by simp only [bH,g1]; exact e⟩
   | ret=>exact ⟨n1,by simp only [bH,g1]; exact e⟩
theorem aQe (c:bO) (a b:aP) (s:St):ev T (.cond c a b) s = (match bN s.get c with | .d (.bool true)=>ev T a s | .d (.bool false)=>ev T b s | _=>none):=by
 refine tT fun r=>?_
 rw [gK]
 simp only [bH]
 generalize bN s.get c = v
 cases v with
 | d x=>cases x with
  | bool b=>cases b <;> exact gK.symm
  | _=>simp
 | _=>simp
theorem aJa (id:Nat) (a:aP) (s:St):ev T (.block id a) s = (match ev T a s with | some (.exit id',s')=>if id' = id then some (.normal,s') else some (.exit id',s') | r=>r):=by
 refine tT fun r=>?_
 rw [gK]
 constructor
 ·rintro ⟨n,hn⟩
  simp only [bH] at hn
  cases ha:bH (j9 T n) n a s with
  | none=>rw [ha] at hn; cases hn
  | some q=>rw [ha] at hn; rw [gK.2 ⟨n,ha⟩]; exact hn
 ·intro e
  cases ha:ev T a s with
  | none=>rw [ha] at e; cases e
  | some q =>
   rw [ha] at e
   obtain ⟨n1,g1⟩:=gK.1 ha
   exact ⟨n1,by simp only [bH,g1]; exact e⟩
theorem aPG (m:xF) (a:aP) (s:St):ev T (.post a m) s = (match ev T a s with | some (.normal,s')=>some (.normal,m.app s') | r=>r):=by
 refine tT fun r=>?_
 rw [gK]
 constructor
 ·rintro ⟨n,hn⟩
  simp only [bH] at hn
  cases ha:bH (j9 T n) n a s with
  | none=>rw [ha] at hn; cases hn
  | some q=>rw [ha] at hn; rw [gK.2 ⟨n,ha⟩]; exact hn
 ·intro e
  cases ha:ev T a s with
  | none=>rw [ha] at e; cases e
  | some q =>
   rw [ha] at e
   obtain ⟨n1,g1⟩:=gK.1 ha
   exact ⟨n1,by simp only [bH,g1]; exact e⟩
theorem aNp (a:aP) (s:St):ev T (.loop a) s = (match ev T a s with | some (.normal,s')=>ev T (.loop a) s' | r=>r):=by
 refine tT fun r=>?_
 rw [gK]
 constructor
 ·rintro ⟨n,hn⟩
  simp only [bH] at hn
  cases n with
  | zero=>cases hn
  | succ n =>
   simp only [BH] at hn
   cases ha:bH (j9 T (n + 1)) (n + 1) a s with
   | none=>rw [ha] at hn; cases hn
   | some q =>
    obtain ⟨ex,s'⟩:=q
    rw [ha] at hn
    rw [gK.2 ⟨n + 1,ha⟩]
    cases ex with
    | normal=>exact gK.2 ⟨n + 1,by simp only [bH]; exact G1 (fun _ _ e=>e) (Ģ n) hn⟩
    | exit id=>exact hn
    | ret=>exact hn
 ·intro e
  cases ha:ev T a s with
  | none=>rw [ha] at e; cases e
  | some q =>
   obtain ⟨ex,s'⟩:=q
   rw [ha] at e
   obtain ⟨n1,g1⟩:=gK.1 ha
   cases ex with
   | normal =>
    obtain ⟨n2,g2⟩:=gK.1 e
    refine ⟨max n1 n2 + 1,?_⟩
    have h1:=mN (i9 T (show n1 <= max n1 n2 + 1 by omega)) (show n1 <= max n1 n2 + 1 by omega) _ _ _ g1
    simp only [bH,BH,h1]
    simp only [bH] at g2
    exact G1 (fun s r e=>mN (i9 T (show n2 <= max n1 n2 + 1 by omega)) (show n2 <= max n1 n2 + 1 by omega) _ _ _ e) (show n2 <= max n1 n2 by omega) g2
   | exit id=>exact ⟨n1 + 1,by simp only [bH,BH,mN (i9 T (Ģ n1)) (Ģ n1) _ _ _ g1]; exact e⟩
   | ret=>exact ⟨n1 + 1,by simp only [bH,BH,mN (i9 T (Ģ n1)) (Ģ n1) _ _ _ g1]; exact e⟩
theorem uF {f:Nat} {o:List D->Option D} (hf:T f = some (.told o)) (ds:List D) (hlt:kG 0 ds = none):call T f ds = o ds:=by
 refine tT fun x=>?_
 rw [yS]
 constructor
 ·rintro ⟨n,hn⟩
  cases n with
  | zero=>cases hn
  | succ n=>simpa only [j9,hf,Â hlt] using hn
 ·intro e
  exact ⟨1,by simpa only [j9,hf,Â hlt] using e⟩
theorem aO9 {f:Nat} {sf:bY} (hf:T f = some (.code sf)) (ds:List D) (hl:ds.length = sf.np) (hlt:kG 0 ds = none):call T f ds = (match ev T sf.body ⟨mZ 0 ds,[]⟩ with
  | some (.normal,s)=>GS sf s
  | some (.ret,s)=>GS sf s
  | _=>none):=by
 refine tT fun x=>?_
 rw [yS]
 constructor
 ·rintro ⟨n,hn⟩
  cases n with
  | zero=>cases hn
  | succ n =>
   simp only [j9,hf,Â hl,hlt] at hn
   cases he:bH (j9 T n) n sf.body ⟨mZ 0 ds,[]⟩ with
   | none=>rw [he] at hn; cases hn
   | some q=>rw [he] at hn; rw [gK.2 ⟨n,he⟩]; exact hn
 ·intro e
  cases he:ev T sf.body ⟨mZ 0 ds,[]⟩ with
  | none=>rw [he] at e; cases e
  | some q =>
   rw [he] at e
   obtain ⟨n,hn⟩:=gK.1 he
   exact ⟨n + 1,by simp only [j9,hf,Â hl,hlt,hn]; exact e⟩
end
def HI {S X:Type} (step:S->Option (S ⊕ X)):Nat->S->Option X
 | 0,_=>none
 | n + 1,s=>match step s with
  | none=>none
  | some (.inl s')=>HI step n s'
  | some (.inr x)=>some x
noncomputable def eJ {S X:Type} (step:S->Option (S ⊕ X)) (s:S):Option X:=lim fun n=>HI step n s
section
variable {S X:Type} {step:S->Option (S ⊕ X)}
theorem S5:∀ (n m:Nat) (s:S) (x:X),n <= m->HI step n s = some x->HI step m s = some x
 | 0,m,s,x,_,e=>by cases e
 | n + 1,0,s,x,h,e=>by omega
 | n + 1,m + 1,s,x,h,e=>by
  simp only [HI] at e ⊢
  split at e
  ·cases e
  ·exact S5 n m _ x (by omega) e
  ·exact e
theorem IG {s:S} {x:X}:eJ step s = some x ↔ ∃ n,HI step n s = some x:=XQ fun n m x h e=>S5 n m _ x h e
theorem aEW (s:S):eJ step s = (match step s with | none=>none | some (.inl s')=>eJ step s' | some (.inr x)=>some x):=by
 refine tT fun x=>?_
 rw [IG]
 constructor
 ·rintro ⟨n,hn⟩
  cases n with
  | zero=>cases hn
  | succ n =>
   simp only [HI] at hn
   cases hs:step s with
   | none=>rw [hs] at hn; cases hn
   | some q =>
    rw [hs] at hn
    cases q with
    | inl s'=>exact IG.2 ⟨n,hn⟩
    | inr y=>exact hn
 ·intro e
  cases hs:step s with
  | none=>rw [hs] at e; cases e
  | some q =>
   rw [hs] at e
   cases q with
   | inl s'=>obtain ⟨n,hn⟩:=IG.1 e; exact ⟨n + 1,by simp only [HI,hs]; exact hn⟩
   | inr y=>exact ⟨1,by simp only [HI,hs]; exact e⟩
def cO (enc:S->St) (out:X->Ex × St):Option (S ⊕ X)->Option (Ex × St)
 | none=>none
 | some (.inl s')=>some (.normal,enc s')
 | some (.inr x)=>some (out x)
theorem aKG {T:wF} {c:aP} (enc:S->St) (out:X->Ex × St) (hout:∀ x s,out x ≠ (.normal,s)) (h:∀ s,ev T c (enc s) = cO enc out (step s)) (s:S) :
  ev T (.loop c) (enc s) = (eJ step s).map out:=by
 refine tT fun r=>?_
 rw [Á]
 constructor
 ·intro e
  obtain ⟨n,hn⟩:=gK.1 e
  simp only [bH] at hn
  generalize hk:(n:Nat) = k at hn
  have key:∀ (k:Nat) (s:S),BH (bH (j9 T n) n c) k (enc s) = some r->∃ x,HI step k s = some x ∧ out x = r:=by
   intro k
   induction k with
   | zero=>intro s e; cases e
   | succ k ih =>
    intro s e
    simp only [BH] at e
    cases hc:bH (j9 T n) n c (enc s) with
    | none=>rw [hc] at e; cases e
    | some q =>
     have h1:=gK.2 ⟨n,hc⟩
     rw [h s] at h1
     rw [hc] at e
     simp only [HI]
     cases hs:step s with
     | none=>rw [hs] at h1; cases h1
     | some y =>
      rw [hs] at h1
      cases y with
      | inl s' =>
       obtain rfl:=ã h1
       exact ih s' e
      | inr x =>
       simp only [cO,Ä] at h1
       refine ⟨x,rfl,?_⟩
       obtain ⟨ex,s'⟩:=q
       cases ex with
       | normal=>exact absurd h1 (hout x s')
       | exit id=>rw [h1]; exact ã e
       | ret=>rw [h1]; exact ã e
  subst hk
  obtain ⟨x,g1,g2⟩:=key n s hn
  exact ⟨x,IG.2 ⟨n,g1⟩,g2⟩
 ·rintro ⟨x,h1,rfl⟩
  obtain ⟨n,hn⟩:=IG.1 h1
  clear h1
  induction n generalizing s with
  | zero=>cases hn
  | succ n ih =>
   simp only [HI] at hn
   rw [aNp,h s]
   cases hs:step s with
   | none=>rw [hs] at hn; cases hn
   | some q =>
    rw [hs] at hn
    cases q with
    | inl s'=>exact ih s' hn
    | inr y =>
     obtain rfl:=ã hn
     simp only [cO]
     cases ho:out y with
     | mk ex s' =>
      cases ex with
      | normal=>exact absurd ho (hout y s')
      | exit id=>rfl
      | ret=>rfl
end
abbrev sp (n:Nat) (op:fT):aY:=⟨some n,op,none,n⟩
abbrev so (n:Nat) (op:fT) (s:Nat):aY:=⟨some n,op,none,s⟩
abbrev dI (x:Int):V:=.d (.int .i64 x)
abbrev dB (b:Bool):V:=.d (.bool b)
abbrev gf (n g:Nat) (op:fT):aY:=⟨some n,op,some (g,false),n⟩
abbrev gt (n g:Nat) (op:fT):aY:=⟨some n,op,some (g,true),n⟩
abbrev jZ (a x y n:Nat):aY:=⟨none,.store a (.t x) (.t y),none,n⟩
abbrev aM (x:Nat):fT:=.move (.t x)
abbrev a8 (a x:Nat):fT:=.load a false (.t x)
abbrev nE (a x:Nat):fT:=.load a true (.t x)
abbrev bS (a x:Nat):fT:=.fieldAddr a (.t x)
abbrev jY (x:Nat):fT:=.len (.t x)
abbrev kC (a x y:Nat):fT:=.indexAddr a (.t x) (.t y)
abbrev lN (k:Nat) (o:BinOp) (x y:Nat):fT:=.bin k o (.t x) (.t y)
abbrev c8 (k:Nat) (o:BinOp) (x:Nat) (y:Int):fT:=.bin k o (.t x) (.c (dI y))
abbrev GA (x:Nat):fT:=.box (.t x)
abbrev fL (x:Int):fT:=.move (.c (dI x))
abbrev JQ (x:Nat):fT:=.un .not (.t x)
abbrev m1 (a:List Nat):xF:=⟨a,[],[],[],[],[]⟩
abbrev m2 (a b:List Nat):xF:=⟨a,b,[],[],[],[]⟩
abbrev iU (l:List aY):aP:=.region l none
abbrev yK (l:List aY) (x:List (Nat × Nat)):aP:=.region l (some x)
abbrev gW (a:List Nat):aP:=.pre ⟨a,[],[],[],[],[]⟩ .ret
abbrev hY (x:Nat) (c:aP):aP:=.cond (.t x) c .skip
abbrev bI (a b:aP):aP:=.seq a b
abbrev aU (l:List aY) (b:aP):aP:=.seq (.region l none) b
theorem hH {P:Program} {f:Func} {s:bY} (h:fZ P f s:=by exact ⟨rfl,by decide,rfl,by decide,rfl,_,rfl,by kernel_rfl⟩):fZ P f s:=h
end Vm
end
end Go.Proofs.YtoefdnkjcfoccaaDoor
