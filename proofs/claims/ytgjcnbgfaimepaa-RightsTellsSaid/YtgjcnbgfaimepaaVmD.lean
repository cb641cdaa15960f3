/- Code is run; calls are run. Calls are run; what a call answers at last. A call that is run in its caller's place amid a region whose order is drawn: all else stands ahead of it or behind it. What code and calls answer at last; equations to reckon with. -/
import Derived.Test.YtgjcnbgfaimepaaVmC
import Derived.RangeFuncRecord
namespace Go.Proofs.Ytgjcnbgfaimepaa
section
namespace Vm
open Go.RowKit
def aGL (keep:List Nat) (bl:Nat->Option aL):V->Bool
 | .ptr id _=>match bl id with
  | some (.box _)=>keep.contains id
  | _=>false
 | _=>false
def DC (keep:List Nat) (bl:Nat->Option aL):V->V
 | .ptr id off=>match bl id with
  | some (.box _)=>if keep.contains id then .ptr id off else .any
  | some (.fbox cs)=>.d (.ptr cs off)
  | _=>.any
 | .own id ver=>match bl id with
  | some (.rows v _ _ _)=>if keep.contains id && ver == v then .own id 0 else .any
  | some (.froz v rows)=>if ver = v then .d (.sl rows) else .any
  | _=>.any
 | .orow id ver i off=>match bl id with
  | some (.rows v _ _ _)=>if keep.contains id && ver == v then .orow id 0 i off else .any
  | _=>.any
 | .fn f caps=>if caps.all (aGL keep bl) = true then .fn f caps else .any
 | .mp id=>match bl id with
  | some (.mp _ _)=>if keep.contains id then .mp id else .any
  | some (.fmp ek m)=>.d (.mp ek m)
  | _=>.any
 | v=>v
def aAD (keep:List Nat) (bl:Nat->Option aL):V->V
 | .agg cs=>.agg (cs.map (DC keep bl))
 | v=>DC keep bl v
def RJ (keep:List Nat) (bl:Nat->Option aL):V->V
 | .tup vs=>.tup (vs.map (aAD keep bl))
 | v=>aAD keep bl v
def HZ (keep:List Nat) (bl:Nat->Option aL):aL->Option aL
 | .box cs=>some (.box (cs.map (DC keep bl)))
 | .rows _ e s rows=>some (.rows 0 e s rows)
 | .froz _ _=>none
 | .fbox _=>none
 | .outer cs=>some (.outer (cs.map (RJ keep bl)))
 | .mp ek m=>some (.mp ek m)
 | .fmp _ _=>none
def mkT (p:Nat × Nat × Nat × Nat) (s:St):St:=match s.get p.1,s.blk p.2.1 with
 | .nil,none=>if 0 < p.2.2.2 then ⟨(p.1,.own p.2.1 0) :: s.fr,(p.2.1,some (.rows 0 p.2.2.1 p.2.2.2 [])) :: s.bl⟩ else s
 | _,_=>s
def mkC (p:Nat × Nat × Nat × Nat × Nat) (s:St):St:=match s.blk p.1,s.blk p.2.2.1 with
 | some (.box cs),none=>match cs[p.2.1]? with
  | some .nil=>if 0 < p.2.2.2.2 then ⟨s.fr,(p.1,some (.box (cs.set p.2.1 (.own p.2.2.1 0)))) :: (p.2.2.1,some (.rows 0 p.2.2.2.1 p.2.2.2.2 [])) :: s.bl⟩ else s
  | _=>s
 | _,_=>s
def frT (t:Nat) (s:St):St:=match AB s.blk (s.get t) with
 | some d=>⟨(t,.d d) :: s.fr,TY s.blk (s.get t) ++ s.bl⟩
 | none=>s
def frC (p:Nat × Nat) (s:St):St:=match s.blk p.1 with
 | some (.box cs)=>match cs[p.2]? with
  | some v=>match pE s.blk v with
   | some d=>⟨s.fr,(p.1,some (.box (cs.set p.2 (.d d)))) :: (JF s.blk v ++ s.bl)⟩
   | none=>s
  | none=>s
 | _=>s
def aAy (live keep:List Nat) (s:St):St:=⟨live.map fun t=>(t,RJ keep s.blk (s.get t)),keep.map fun i=>(i,(s.blk i).bind (HZ keep s.blk))⟩
def BE.app (m:BE) (s:St):St:=aAy m.live m.keep (m.fzC.foldl (fun s p=>frC p s) (m.fzT.foldl (fun s t=>frT t s) (m.ownC.foldl (fun s p=>mkC p s) (m.ownT.foldl (fun s p=>mkT p s) s))))
section
variable {nt:Nat} {w0:c8} {w:World} {h0 h:Hp} {s:St} {a:Act} {hd:Nat->Value}
theorem aEN {α:Type} (f:Nat->α) (d:α) (t:Nat):∀ l:List Nat,lk (l.map fun i=>(i,f i)) d t = if t ∈ l then f t else d
 | []=>rfl
 | k :: l=>by
  simp only [ø,lk,aEN f d t l,Ô]
  by_cases e:t = k
  ·subst e; simp
  ·simp [e]
theorem AM {fr:Nat->V} {bl bl' : Nat->Option aL} {keep:List Nat} (r:Rl nt w0 h0 fr bl a w h hd) (hbl:∀ i,bl' i = if i ∈ keep then (bl i).bind (HZ keep bl) else none) {v:Value} {x:V} (hx:R1 h hd bl v x):R1 h hd bl' v (DC keep bl x):=by
 cases x with
 | ptr id off =>
  obtain ⟨⟨b,hb,hbx⟩,g,q1,q2⟩:=hx
  simp only [DC,hb]
  cases b with
  | box cs =>
   simp only
   split
   ·rename_i hk
    exact ⟨⟨_,by rw [hbl,Á (by simpa using hk),hb]; rfl,rfl⟩,g,q1,q2⟩
   ·trivial
  | fbox cs =>
   have:=r.blk id _ hb
   simp only [BR,q1] at this
   subst q2
   exact ⟨rfl,UB this⟩
  | _=>trivial
 | own id ver =>
  obtain ⟨b,c,hb,hc,hle,h1,he⟩:=hx
  simp only [DC,hb]
  cases b with
  | box cs=>trivial
  | fbox cs=>trivial
  | outer cs=>trivial
  | mp ek m=>trivial
  | fmp ek m=>trivial
  | rows v' e s rows =>
   simp only [aL.ver?,Å] at hc
   simp only
   split
   ·rename_i hk
    simp only [Ø,beq_iff_eq] at hk
    exact ⟨_,0,by rw [hbl,Á (by simpa using hk.1),hb]; rfl,rfl,É _,h1,fun _=>he (by omega)⟩
   ·trivial
  | froz v' rows =>
   simp only [aL.ver?,Å] at hc
   simp only
   split
   ·rename_i hv
    refine ⟨rfl,?_⟩
    rw [he (by omega)]
    exact r.blk id _ hb
   ·trivial
 | orow id ver i off =>
  obtain ⟨b,c,hb,hc,hle,h1,he⟩:=hx
  simp only [DC,hb]
  cases b with
  | rows v' e s rows =>
   simp only [aL.ver?,Å] at hc
   simp only
   split
   ·rename_i hk
    simp only [Ø,beq_iff_eq] at hk
    obtain ⟨hk,rfl⟩:=hk
    refine ⟨_,0,by rw [hbl,Á (by simpa using hk),hb]; rfl,rfl,É _,h1,fun e' s' rows' eq=>?_⟩
    cases eq
    exact he e s rows rfl
   ·trivial
  | _=>trivial
 | mp id =>
  obtain ⟨⟨b,hb,hbx⟩,q1,g,q2⟩:=hx
  simp only [DC,hb]
  cases b with
  | mp ek m =>
   simp only
   split
   ·rename_i hk
    exact ⟨⟨_,by rw [hbl,Á (by simpa using hk),hb]; rfl,rfl⟩,q1,g,q2⟩
   ·trivial
  | fmp ek m =>
   have:=r.blk id _ hb
   subst q1
   exact ⟨rfl,this⟩
  | _=>trivial
 | any=>trivial
 | d x=>exact hx
 | nil=>exact hx
 | agg cs=>exact hx
 | tup cs=>exact hx
 | fn f caps =>
  simp only [DC]
  split
  ·rename_i hall
   obtain ⟨arr,e,hs,hr⟩:=hx
   refine ⟨arr,e,hs,fun j x hj=>?_⟩
   have hc:=Ó.1 hall x (Î hj)
   have hxr:=hr j x hj
   cases x with
   | ptr id off =>
    obtain ⟨⟨b,hb,hx⟩,q⟩:=hxr
    simp only [aGL,hb] at hc
    cases b with
    | box cs =>
     simp only at hc
     exact ⟨⟨_,by rw [hbl,Á (by simpa using hc),hb]; rfl,rfl⟩,q⟩
    | _=>cases hc
   | _=>exact hxr.elim
  ·trivial
theorem AU {fr:Nat->V} {bl bl' : Nat->Option aL} {keep:List Nat} (r:Rl nt w0 h0 fr bl a w h hd) (hbl:∀ i,bl' i = if i ∈ keep then (bl i).bind (HZ keep bl) else none) {v:Value} {x:V} (hx:R2 h hd bl v x):R2 h hd bl' v (aAD keep bl x):=by
 cases x with
 | agg cs =>
  obtain ⟨arr,rfl,h1,h2⟩:=hx
  refine ⟨arr,rfl,by simpa using h1,fun j x hx=>?_⟩
  rw [Ç,Â] at hx
  obtain ⟨y,hy,rfl⟩:=hx
  exact ⟨AM r hbl (h2 j y hy).1,(h2 j y hy).2⟩
 | tup vs=>exact (show False from hx).elim
 | any=>exact R2.of1 (AM r hbl (x:=.any) hx)
 | d x=>exact R2.of1 (AM r hbl (x:=.d x) hx)
 | nil=>exact R2.of1 (AM r hbl (x:=.nil) hx)
 | ptr i o=>exact R2.of1 (AM r hbl (x:=.ptr i o) hx)
 | own i n=>exact R2.of1 (AM r hbl (x:=.own i n) hx)
 | orow i n j o=>exact R2.of1 (AM r hbl (x:=.orow i n j o) hx)
 | fn f c=>exact R2.of1 (AM r hbl (x:=.fn f c) hx)
 | mp i=>exact R2.of1 (AM r hbl (x:=.mp i) hx)
theorem aCV {fr:Nat->V} {bl bl' : Nat->Option aL} {keep:List Nat} (r:Rl nt w0 h0 fr bl a w h hd) (hbl:∀ i,bl' i = if i ∈ keep then (bl i).bind (HZ keep bl) else none) {v:Value} {x:V} (hx:R3 h hd bl v x):R3 h hd bl' v (RJ keep bl x):=by
 cases x with
 | tup vs =>
  obtain ⟨arr,rfl,h1,h2⟩:=hx
  refine ⟨arr,rfl,by simpa using h1,fun j x hx=>?_⟩
  rw [Ç,Â] at hx
  obtain ⟨y,hy,rfl⟩:=hx
  exact AU r hbl (h2 j y hy)
 | agg cs=>exact R3.of2 (AU r hbl (x:=.agg cs) hx)
 | any=>exact R3.of2 (AU r hbl (x:=.any) hx)
 | d x=>exact R3.of2 (AU r hbl (x:=.d x) hx)
 | nil=>exact R3.of2 (AU r hbl (x:=.nil) hx)
 | ptr i o=>exact R3.of2 (AU r hbl (x:=.ptr i o) hx)
 | own i n=>exact R3.of2 (AU r hbl (x:=.own i n) hx)
 | orow i n j o=>exact R3.of2 (AU r hbl (x:=.orow i n j o) hx)
 | fn f c=>exact R3.of2 (AU r hbl (x:=.fn f c) hx)
 | mp i=>exact R3.of2 (AU r hbl (x:=.mp i) hx)
theorem aJN (r:Rl nt w0 h0 s.get s.blk a w h hd) (live keep:List Nat):Rl nt w0 h0 (aAy live keep s).get (aAy live keep s).blk a w h hd:=by
 have hg:∀ t,(aAy live keep s).get t = if t ∈ live then RJ keep s.blk (s.get t) else .any:=fun t=>aEN _ _ _ _
 have hb:∀ i,(aAy live keep s).blk i = if i ∈ keep then (s.blk i).bind (HZ keep s.blk) else none:=fun i=>aEN _ _ _ _
 have hcase:∀ id b,(aAy live keep s).blk id = some b->∃ b0,s.blk id = some b0 ∧ HZ keep s.blk b0 = some b:=by
  intro id b e
  rw [hb] at e
  split at e
  ·rw [ě] at e; exact e
  ·cases e
 refine { tmps:=r.tmps,defers:=r.defers,fixed:=r.fixed,below:=r.below,hle:=r.hle,h0le:=r.h0le,hbase:=r.hbase,frame:=fun t=>?_,blk:=fun id b e=>?_,sep:=?_ }
 ·rw [hg]
  split
  ·exact aCV r hb (r.frame t)
  ·trivial
 ·obtain ⟨b0,e1,e2⟩:=hcase id b e
  have hB:=r.blk id b0 e1
  cases b0 with
  | box cs =>
   simp only [HZ,Å] at e2
   subst e2
   obtain ⟨g,arr,ee,q1,q2,q3,q4,q5,q6⟩:=hB
   refine ⟨g,arr,ee,q1,q2,q3,by simpa using q4,fun j x hx=>?_,q6⟩
   rw [Ç,Â] at hx
   obtain ⟨y,hy,rfl⟩:=hx
   exact ⟨AM r hb (q5 j y hy).1,(q5 j y hy).2⟩
  | rows v' ee ss rows=>simp only [HZ,Å] at e2; subst e2; exact hB
  | froz v' rows=>cases e2
  | fbox cs=>cases e2
  | mp ek m=>simp only [HZ,Å] at e2; subst e2; exact hB
  | fmp ek m=>cases e2
  | outer cs =>
   simp only [HZ,Å] at e2
   subst e2
   intro j x hx
   rw [Ç,Â] at hx
   obtain ⟨y,hy,rfl⟩:=hx
   exact aCV r hb (hB j y hy)
 ·intro i j bi bj g hi hj li lj gi gj
  obtain ⟨b0,e1,e2⟩:=hcase i bi hi
  obtain ⟨b1,e3,e4⟩:=hcase j bj hj
  have l0:b0.live = true:=by cases b0 <;> first | rfl | (cases e2; done) | (simp only [HZ,Å] at e2; subst e2; simp [aL.live] at li)
  have l1:b1.live = true:=by cases b1 <;> first | rfl | (cases e4; done) | (simp only [HZ,Å] at e4; subst e4; simp [aL.live] at lj)
  exact r.sep i j b0 b1 g e1 e3 l0 l1 gi gj
theorem aGY (r:Rl nt w0 h0 s.get s.blk a w h hd) {id e size:Nat} (hs:s.blk id = none) (hz:0 < size):∃ hd',Rl nt w0 h0 s.get (cC s.blk [(id,some (.rows 0 e size []))]) a w h hd' ∧ hd' id = .slice none 0 0 ∧ R1 h hd' (cC s.blk [(id,some (.rows 0 e size []))]) (.slice none 0 0) (.own id 0):=by
 obtain ⟨hd',hh,hr⟩:=r.newRows' (w':=w) none (fun d e=>by cases e) id hs e size [] (.slice none 0 0) [] hz (by simp [maxLen]) ⟨rfl,rfl,rfl,É _,fun _ _ _=>rfl⟩ (ļ w _ e size) (fun i row hi=>by simp at hi)
 exact ⟨hd',hr,hh,⟨_,0,vH _ _ _,rfl,É _,rfl,fun _=>hh.symm⟩⟩
theorem aRB (r:Rl nt w0 h0 s.get s.blk a w h hd) (p:Nat × Nat × Nat × Nat):∃ hd',Rl nt w0 h0 (mkT p s).get (mkT p s).blk a w h hd':=by
 obtain ⟨t,id,e,size⟩:=p
 unfold mkT
 split
 ·rename_i h1 h2
  split
  ·rename_i hz
   simp only at h1 h2 hz
   obtain ⟨hd',hr,hh,hv⟩:=aGY r h2 hz (e:=e)
   refine ⟨hd',?_⟩
   have e1:(⟨(t,.own id 0) :: s.fr,(id,some (.rows 0 e size [])) :: s.bl⟩ : St).get = jP s.get (some t) (.own id 0):=by
    funext t'
    simp only [St.get,lk,jP,Å]
    by_cases q:t' = t
    ·rw [Á q,Á q.symm]
    ·rw [Ã q,Ã fun x=>q x.symm]
   have e2:(⟨(t,.own id 0) :: s.fr,(id,some (.rows 0 e size [])) :: s.bl⟩ : St).blk = cC s.blk [(id,some (.rows 0 e size []))]:=by
    funext i
    simp only [St.blk,lk,cC]
   simp only at e1 e2 ⊢
   rw [e1,e2]
   refine { hr with frame:=fun t'=>?_ }
   simp only [jP,Å]
   by_cases q:t = t'
   ·rw [Á q]
    have:=r.frame t
    rw [h1] at this
    subst q
    rw [show a.tmps.getD t undef = _ from this]
    exact hv
   ·rw [Ã q]; exact hr.frame t'
  ·exact ⟨hd,r⟩
 ·exact ⟨hd,r⟩
theorem aRx (r:Rl nt w0 h0 s.get s.blk a w h hd) (p:Nat × Nat × Nat × Nat × Nat):∃ hd',Rl nt w0 h0 (mkC p s).get (mkC p s).blk a w h hd':=by
 obtain ⟨b,c,id,e,size⟩:=p
 unfold mkC
 split
 ·rename_i cs h1 h2
  split
  ·rename_i h3
   split
   ·rename_i hz
    simp only at h1 h2 h3 hz
    obtain ⟨hd',hr,hh,hv⟩:=aGY r h2 hz (e:=e)
    have hne:b ≠ id:=fun q=>by rw [q,h2] at h1; cases h1
    have hb' : cC s.blk [(id,some (.rows 0 e size []))] b = some (.box cs):=by rw [CM _ _ hne]; exact h1
    obtain ⟨g,arr,ee,q1,q2,q3,q4,q5,q6⟩:=hr.blk b _ hb'
    have hself:arr.getD c undef = .slice none 0 0:=(q5 c _ h3).1
    obtain ⟨hd'',hr''⟩:=hr.setBox (w':=w) none (fun d e=>by cases e) undef b cs (cs.set c (.own id 0)) hb' g arr arr ee q1 (by simpa using q4) (by
     intro j x hx
     rw [ĥ] at hx
     split at hx
     ·rename_i hj
      subst hj
      split at hx
      ·cases hx
       rw [hself]
       exact ⟨hv,rfl⟩
      ·cases hx
     ·exact q5 j x hx) q3 ⟨rfl,rfl,rfl,É _,fun _ _ _=>rfl⟩
    refine ⟨hd'',?_⟩
    have e2:(⟨s.fr,(b,some (.box (cs.set c (.own id 0)))) :: (id,some (.rows 0 e size [])) :: s.bl⟩ : St).blk = cC (cC s.blk [(id,some (.rows 0 e size []))]) [(b,some (.box (cs.set c (.own id 0))))]:=by
     funext i
     simp only [St.blk,lk,cC]
    simp only at e2 ⊢
    rw [e2]
    exact hr''
   ·exact ⟨hd,r⟩
  ·exact ⟨hd,r⟩
 ·exact ⟨hd,r⟩
theorem aFQ {α:Type}:∀ (l m:List (Nat × α)) (d:α) (t:Nat),lk (l ++ m) d t = lk l (lk m d t) t
 | [],m,d,t=>rfl
 | (k,v) :: l,m,d,t=>by simp only [ą,lk]; rw [aFQ l m d t]
theorem aQX (r:Rl nt w0 h0 s.get s.blk a w h hd) (t:Nat):∃ h',Rl nt w0 h0 (frT t s).get (frT t s).blk a w h' hd:=by
 unfold frT
 split
 ·rename_i d hd0
  refine ⟨NO w h hd (TY s.blk (s.get t)),?_⟩
  have r':=r.freeze _ (aEB (bl:=s.blk) (s.get t))
  have e1:(⟨(t,.d d) :: s.fr,TY s.blk (s.get t) ++ s.bl⟩ : St).get = jP s.get (some t) (.d d):=by
   funext t'
   simp only [St.get,lk,jP,Å]
   by_cases q:t' = t
   ·rw [Á q,Á q.symm]
   ·rw [Ã q,Ã fun x=>q x.symm]
  have e2:(⟨(t,.d d) :: s.fr,TY s.blk (s.get t) ++ s.bl⟩ : St).blk = cC s.blk (TY s.blk (s.get t)):=by
   funext i
   simp only [St.blk,cC,aFQ]
  rw [e1,e2]
  refine { r' with frame:=fun t'=>?_ }
  simp only [jP,Å]
  by_cases q:t = t'
  ·rw [Á q]
   subst q
   have hx:R1 h hd s.blk (a.tmps.getD t undef) (s.get t):=by
    have:=r.frame t
    cases hg:s.get t <;> rw [hg] at this hd0 <;> first | exact this | cases hd0
   have:=M2 r (TY s.blk (s.get t)) hx hd0 fun p hp=>hp
   exact ⟨this.2,this.1⟩
  ·rw [Ã q]; exact r'.frame t'
 ·exact ⟨h,r⟩
theorem aDm {bl:Nat->Option aL} {v:V} {q:Nat × Option aL} {ds:List D} (h:q ∈ TY bl v) (h2:q.2 = some (.fbox ds)):False:=by
 unfold TY at h
 split at h
 ·split at h
  ·simp only [ê] at h; rw [h] at h2; cases h2
  ·cases h
 ·split at h
  ·simp only [ê] at h; rw [h] at h2; cases h2
  ·cases h
 ·cases h
theorem aJ2 {bl:Nat->Option aL} {v:V} {q:Nat × Option aL} {ds:List D} (h:q ∈ JF bl v) (h2:q.2 = some (.fbox ds)) (h3:∀ off,v = .ptr q.1 off->False):False:=by
 unfold JF at h
 split at h
 ·split at h
  ·split at h
   ·rcases Ô.1 h with e | h
    ·exact h3 _ (by rw [e])
    ·obtain ⟨x,_,hx⟩:=Ð.1 h
     exact aDm hx h2
   ·cases h
  ·cases h
 ·exact aDm h h2
theorem aRK (r:Rl nt w0 h0 s.get s.blk a w h hd) (p:Nat × Nat):∃ h' hd',Rl nt w0 h0 (frC p s).get (frC p s).blk a w h' hd':=by
 obtain ⟨b,c⟩:=p
 unfold frC
 split
 ·rename_i cs h1
  split
  ·rename_i v h3
   split
   ·rename_i d hd0
    simp only at h1 h3
    have r':=r.freeze _ (UW (bl:=s.blk) v)
    have hb' : cC s.blk (JF s.blk v) b = some (.box cs):=by
     refine (A1 ?_).trans h1
     intro hm
     obtain ⟨q,hq,rfl⟩:=Ú.1 hm
     rcases UW (bl:=s.blk) v q hq with ⟨v',e',s',rows,g1,_⟩ | ⟨cs',ds,g1,g2,_⟩ | ⟨ek,m,g1,_⟩
     ·rw [h1] at g1; cases g1
     ·refine aJ2 (bl:=s.blk) (v:=v) hq g2 fun off e=>?_
      subst e
      obtain ⟨ds',hds⟩ : ∃ ds',aM (AB s.blk) cs = some ds':=by
       unfold pE at hd0
       dsimp only at hd0
       rw [h1] at hd0
       obtain ⟨ds',e1,_⟩:=Â.1 hd0
       exact ⟨ds',e1⟩
      obtain ⟨y,_,hy⟩:=(bN hds).2 c _ h3
      unfold AB at hy
      dsimp only at hy
      rw [h1] at hy
      cases hy
     ·rw [h1] at g1; cases g1
    obtain ⟨g,arr,ee,q1,q2,q3,q4,q5,q6⟩:=r'.blk b _ hb'
    obtain ⟨_,arr0,ee0,z1,z2,z3,z4,z5,z6⟩:=r.blk b _ h1
    rw [q1] at z1; cases z1
    rw [q3] at z3; cases z3
    have hval:=rD r (JF s.blk v) (z5 c v h3).1 hd0 fun p hp=>hp
    obtain ⟨hd'',hr''⟩:=r'.setBox (w':=w) none (fun d e=>by cases e) undef b cs (cs.set c (.d d)) hb' g arr arr ee q1 (by simpa using q4) (by
     intro j x hx
     rw [ĥ] at hx
     split at hx
     ·rename_i hj
      subst hj
      split at hx
      ·cases hx
       exact ⟨⟨hval.2,hval.1⟩,(z5 c v h3).2⟩
      ·cases hx
     ·exact q5 j x hx) q3 ⟨rfl,rfl,rfl,É _,fun _ _ _=>rfl⟩
    refine ⟨NO w h hd (JF s.blk v),hd'',?_⟩
    have e2:(⟨s.fr,(b,some (.box (cs.set c (.d d)))) :: (JF s.blk v ++ s.bl)⟩ : St).blk = cC (cC s.blk (JF s.blk v)) [(b,some (.box (cs.set c (.d d))))]:=by
     funext i
     simp only [St.blk,lk,cC,aFQ]
    simp only at e2 ⊢
    rw [e2]
    exact hr''
   ·exact ⟨h,hd,r⟩
  ·exact ⟨h,hd,r⟩
 ·exact ⟨h,hd,r⟩
theorem PJ {α:Type} (f:α->St->St) (hf:∀ (x:α) (s:St) (h:Hp) (hd:Nat->Value),Rl nt w0 h0 s.get s.blk a w h hd->∃ h' hd',Rl nt w0 h0 (f x s).get (f x s).blk a w h' hd'):∀ (l:List α) (s:St) (h:Hp) (hd:Nat->Value),Rl nt w0 h0 s.get s.blk a w h hd->∃ h' hd',Rl nt w0 h0 (l.foldl (fun s x=>f x s) s).get (l.foldl (fun s x=>f x s) s).blk a w h' hd'
 | [],s,h,hd,r=>⟨h,hd,r⟩
 | x :: l,s,h,hd,r=>by
  obtain ⟨h',hd',r'⟩:=hf x s h hd r
  exact PJ f hf l (f x s) h' hd' r'
theorem D7 (r:Rl nt w0 h0 s.get s.blk a w h hd) (m:BE):∃ h' hd',Rl nt w0 h0 (m.app s).get (m.app s).blk a w h' hd':=by
 obtain ⟨h1,hd1,r1⟩:=PJ mkT (fun x s h hd r=>⟨h,aRB r x⟩) m.ownT s h hd r
 obtain ⟨h2,hd2,r2⟩:=PJ mkC (fun x s h hd r=>⟨h,aRx r x⟩) m.ownC _ h1 hd1 r1
 obtain ⟨h3,hd3,r3⟩:=PJ frT (fun x s h hd r=>let ⟨h',q⟩:=aQX r x; ⟨h',hd,q⟩) m.fzT _ h2 hd2 r2
 obtain ⟨h4,hd4,r4⟩:=PJ frC (fun x s h hd r=>aRK r x) m.fzC _ h3 hd3 r3
 exact ⟨h4,hd4,aJN r4 m.live m.keep⟩
end
inductive Ex where
 | normal | exit (id:Nat) | ret
def Ex.go:Ex->Exit
 | .normal=>.normal
 | .exit id=>.exit id
 | .ret=>.ret
def w7 (f:St->Option (Ex × St)):Nat->St->Option (Ex × St)
 | 0,_=>none
 | n + 1,s=>match f s with
  | some (.normal,s')=>w7 f n s'
  | r=>r
def zW (s:St):qU->Option V
 | .tmp t=>some (s.get t)
 | .cell t size isAgg=>match iB (fun _ _=>none) 0 (fun _=>s.get t) s.blk (.load size isAgg (.t t)) with
  | some (v,_)=>some v
  | none=>none
def sV:Nat->List V->List (Nat × V)
 | _,[]=>[]
 | i,v :: vs=>(i,v) :: sV (i + 1) vs
def V.noTup:V->Bool
 | .tup _=>false
 | _=>true
def aAY (args:List d7) (id:Nat) (slots:List Nat) (s:St):Option St :=
 if (s.blk id).isNone = true then some ⟨sV 0 (args.map (cZ s.get)),(id,some (.outer (slots.map s.get))) :: s.bl⟩ else none
def JD (ws:List V) (id:Nat) (slots:List Nat) (s:St):Option St :=
 if (s.blk id).isNone = true then some ⟨sV 0 ws,(id,some (.outer (slots.map s.get))) :: s.bl⟩ else none
def L8 (f nc:Nat):V->Option (List V)
 | .fn g caps=>if g = f ∧ caps.length = nc then some caps else none
 | _=>none
def WX (dst:Option Nat) (v:V):List (Nat × V):=match dst with
 | some d=>[(d,v)]
 | none=>[]
def pS (dst:Option Nat) (res:List qU) (id:Nat) (slots:List Nat) (s:St):Option St:=match s.blk id,aM (zW s) res with
 | some (.outer cs),some [v]=>some ⟨WX dst v ++ slots.zip cs,(id,none) :: s.bl⟩
 | some (.outer cs),some vs=>if vs.all V.noTup = true then some ⟨WX dst (.tup vs) ++ slots.zip cs,(id,none) :: s.bl⟩ else none
 | _,_=>none
def aR (C:Nat->List D->Option D) (n:Nat):aH->St->Option (Ex × St)
 | .skip,s=>some (.normal,s)
 | .region ops draw,s=>match iX C ops draw s with
  | some s'=>some (.normal,s')
  | none=>none
 | .seq a b,s=>match aR C n a s with
  | some (.normal,s')=>aR C n b s'
  | r=>r
 | .cond c a b,s=>match cZ s.get c with
  | .d (.bool true)=>aR C n a s
  | .d (.bool false)=>aR C n b s
  | _=>none
 | .block id a,s=>match aR C n a s with
  | some (.exit id',s')=>if id' = id then some (.normal,s') else some (.exit id',s')
  | r=>r
 | .loop a,s=>w7 (aR C n a) n s
 | .exit id,s=>some (.exit id,s)
 | .ret,s=>some (.ret,s)
 | .inlv ops x nc args dst f body res id slots,s=>match lA C ops s with
  | none=>none
  | some s1=>match L8 f nc (cZ s1.get x) with
   | none=>none
   | some caps=>match JD (args.map (cZ s1.get) ++ caps) id slots s1 with
    | none=>none
    | some s2=>match aR C n body s2 with
     | some (.normal,s3)=>(pS dst res id slots s3).map fun s4=>(.normal,s4)
     | some (.ret,s3)=>(pS dst res id slots s3).map fun s4=>(.normal,s4)
     | _=>none
 | .pre m a,s=>aR C n a (m.app s)
 | .post a m,s=>match aR C n a s with
  | some (.normal,s')=>some (.normal,m.app s')
  | r=>r
 | .hand g,s=>match g s with
  | some s'=>some (.normal,s')
  | none=>none
 | .inl ops args dst f body res id slots,s=>match lA C ops s with
  | none=>none
  | some s1=>match aAY args id slots s1 with
   | none=>none
   | some s2=>match aR C n body s2 with
    | some (.normal,s3)=>(pS dst res id slots s3).map fun s4=>(.normal,s4)
    | some (.ret,s3)=>(pS dst res id slots s3).map fun s4=>(.normal,s4)
    | _=>none
theorem ZR {P:Program} {c:Code} {Q:Exit->Act->World->Prop} (G:Nat->Act->World->Prop) (zero:∀ a w,¬ G 0 a w) (round:∀ k a w,G (k + 1) a w->c.wp P (Exit.then (fun a' w'=>G k a' w') Q) a w) :
  ∀ k a w,G k a w->(Code.loop c).wp P Q a w:=by
 intro k a w hG
 have least:∀ a w,(∃ k,G k a w)->∃ k,G k a w ∧ ∀ j,G j a w->k <= j:=by
  intro a w ⟨k,hk⟩
  induction k using Nat.strongRecOn with
  | _ k ih =>
   by_cases h:∃ j,j < k ∧ G j a w
   ·obtain ⟨j,hj,hg⟩:=h; exact ih j hj hg
   ·exact ⟨k,hk,fun j hj=>ũ fun hlt=>h ⟨j,hlt,hj⟩⟩
 refine wp_loop (fun a w=>∃ k,G k a w) (fun a w=>@dite _ (∃ k,G k a w) (Classical.propDecidable _) (fun h=>(least a w h).choose) (fun _=>0)) ⟨k,hG⟩ ?_
 intro a w hI
 have hsp:=(least a w hI).choose_spec
 generalize hk0:(least a w hI).choose = k0 at hsp
 obtain ⟨g1,g2⟩:=hsp
 cases k0 with
 | zero=>exact absurd g1 (zero a w)
 | succ k1 =>
  refine wp_mono (round k1 a w g1) fun e a' w' hq=>?_
  cases e with
  | normal =>
   refine ⟨⟨k1,hq⟩,?_⟩
   have hI' : ∃ k,G k a' w':=⟨k1,hq⟩
   have h2:=(least a' w' hI').choose_spec.2 k1 hq
   simp only [dif_pos hI',dif_pos hI,hk0]
   omega
  | _=>exact hq
section
variable {P:Program} {nt:Nat} {w0:c8} {h0:Hp} {C:Nat->List D->Option D}
def B2 (w0:c8):Code->Prop
 | .region _ ops _=>aAg w0 ops
 | .seq a b=>B2 w0 a ∧ B2 w0 b
 | .cond _ a b=>B2 w0 a ∧ B2 w0 b
 | .block _ a=>B2 w0 a
 | .loop a=>B2 w0 a
 | _=>True
theorem B2.none (h:∀ t,w0.F t = none):∀ c,B2 w0 c
 | .region _ ops _=>fun _ _ d _=>h d
 | .seq a b=>⟨B2.none h a,B2.none h b⟩
 | .cond _ a b=>⟨B2.none h a,B2.none h b⟩
 | .block _ a=>B2.none h a
 | .loop a=>B2.none h a
 | .skip=>trivial
 | .exit _=>trivial
 | .ret=>trivial
 | .goto _=>trivial
 | .label _=>trivial
 | .scope _=>trivial
 | .refuse _=>trivial
 | .rangeFunc _ _ _ _=>trivial
theorem aBI (hC:vV P C) (hm:P.follows .mixedOrders = true) (n:Nat):∀ (sc:aH) (c:Code) (s s' : St) (ex:Ex) (a:Act) (w:World) (h:Hp) (hd:Nat->Value) (Q:Exit->Act->World->Prop),
  B2 w0 c->sM P nt c = some sc.bare->aR C n sc s = some (ex,s')->Rl nt w0 h0 s.get s.blk a w h hd->(∀ a' w' h' hd',Rl nt w0 h0 s'.get s'.blk a' w' h' hd'->Q ex.go a' w')->c.wp P Q a w:=by
 intro sc
 induction sc with
 | skip =>
  intro c s s' ex a w h hd Q hF hl he r hQ
  cases c <;> simp only [sM,aH.bare] at hl
  case skip=>simp only [aR,Å,Ĕ] at he; obtain ⟨rfl,rfl⟩:=he; exact wp_skip (hQ _ _ _ _ r)
  case region=>split at hl <;> first | (cases hl; done) | skip; split at hl <;> first | (cases hl; done) | skip; split at hl <;> cases hl
  case seq=>split at hl <;> cases hl
  case cond=>split at hl <;> cases hl
  case block=>rw [Â] at hl; obtain ⟨_,_,e⟩:=hl; cases e
  case loop=>rw [Â] at hl; obtain ⟨_,_,e⟩:=hl; cases e
  all_goals cases hl
 | region ops draw =>
  intro c s s' ex a w h hd Q hF hl he r hQ
  cases c <;> simp only [sM,aH.bare] at hl
  case region id rops dr =>
   split at hl
   ·cases hl
   ·rename_i l hlow
    simp only [aR] at he
    split at he
    ·rename_i s1 h1
     cases he
     split at hl
     ·rename_i hdr
      split at hl
      ·rename_i hok
       cases hl
       subst hdr
       exact aAv hC hm hF hlow (draw:=true) (by simp [hok]) h1 r hQ
      ·cases hl
     ·rename_i hdr
      cases hl
      have:dr = false:=by simpa using hdr
      subst this
      exact aAv hC hm hF hlow (draw:=false) (by simp) h1 r hQ
    ·cases he
  case seq=>split at hl <;> cases hl
  case cond=>split at hl <;> cases hl
  case block=>rw [Â] at hl; obtain ⟨_,_,e⟩:=hl; cases e
  case loop=>rw [Â] at hl; obtain ⟨_,_,e⟩:=hl; cases e
  all_goals cases hl
 | seq x y ihx ihy =>
  intro c s s' ex a w h hd Q hF hl he r hQ
  cases c <;> simp only [sM,aH.bare] at hl
  case region=>split at hl <;> first | (cases hl; done) | skip; split at hl <;> first | (cases hl; done) | skip; split at hl <;> cases hl
  case seq ca cb =>
   split at hl
   ·rename_i l1 l2 h1 h2
    cases hl
    refine wp_seq ?_
    simp only [aR] at he
    split at he
    ·rename_i s1 he1
     exact ihx ca s s1 .normal a w h hd _ hF.1 h1 he1 r fun a' w' h' hd' r'=>ihy cb s1 s' ex a' w' h' hd' Q hF.2 h2 he r' hQ
    ·rename_i hne
     refine ihx ca s s' ex a w h hd _ hF.1 h1 he r fun a' w' h' hd' r'=>?_
     cases ex with
     | normal=>exact absurd he (hne _)
     | exit id=>exact hQ _ _ _ _ r'
     | ret=>exact hQ _ _ _ _ r'
   ·cases hl
  case cond=>split at hl <;> cases hl
  case block=>rw [Â] at hl; obtain ⟨_,_,e⟩:=hl; cases e
  case loop=>rw [Â] at hl; obtain ⟨_,_,e⟩:=hl; cases e
  all_goals cases hl
 | cond c x y ihx ihy =>
  intro cc s s' ex a w h hd Q hF hl he r hQ
  cases cc <;> simp only [sM,aH.bare] at hl
  case region=>split at hl <;> first | (cases hl; done) | skip; split at hl <;> first | (cases hl; done) | skip; split at hl <;> cases hl
  case seq=>split at hl <;> cases hl
  case cond co ca cb =>
   split at hl
   ·rename_i l0 l1 l2 h1 h2 h3
    cases hl
    have hc:=eE r.frame h1
    simp only [aR] at he
    split at he
    ·rename_i hb
     rw [hb] at hc
     exact wp_cond_true (mZ hc) (ihx ca s s' ex a w h hd Q hF.1 h2 he r hQ)
    ·rename_i hb
     rw [hb] at hc
     exact Ş (mZ hc) (ihy cb s s' ex a w h hd Q hF.2 h3 he r hQ)
    ·cases he
   ·cases hl
  case block=>rw [Â] at hl; obtain ⟨_,_,e⟩:=hl; cases e
  case loop=>rw [Â] at hl; obtain ⟨_,_,e⟩:=hl; cases e
  all_goals cases hl
 | block id x ih =>
  intro c s s' ex a w h hd Q hF hl he r hQ
  cases c <;> simp only [sM,aH.bare] at hl
  case region=>split at hl <;> first | (cases hl; done) | skip; split at hl <;> first | (cases hl; done) | skip; split at hl <;> cases hl
  case seq=>split at hl <;> cases hl
  case cond=>split at hl <;> cases hl
  case block id' ca =>
   rw [Â] at hl
   obtain ⟨l1,h1,e⟩:=hl
   cases e
   refine wp_block ?_
   simp only [aR] at he
   split at he
   ·rename_i id'' s1 he1
    refine ih ca s s1 (.exit id'') a w h hd _ hF h1 he1 r fun a' w' h' hd' r'=>?_
    simp only [Ex.go,Exit.inBlock]
    split at he
    ·rename_i hid
     cases he
     rw [Á hid]
     exact hQ _ _ _ _ r'
    ·rename_i hid
     cases he
     rw [Ã hid]
     exact hQ _ _ _ _ r'
   ·rename_i hne
    refine ih ca s s' ex a w h hd _ hF h1 he r fun a' w' h' hd' r'=>?_
    cases ex with
    | normal=>exact hQ _ _ _ _ r'
    | exit id=>exact absurd he (hne _ _)
    | ret=>exact hQ _ _ _ _ r'
  case loop=>rw [Â] at hl; obtain ⟨_,_,e⟩:=hl; cases e
  all_goals cases hl
 | loop x ih =>
  intro c s s' ex a w h hd Q hF hl he r hQ
  cases c <;> simp only [sM,aH.bare] at hl
  case region=>split at hl <;> first | (cases hl; done) | skip; split at hl <;> first | (cases hl; done) | skip; split at hl <;> cases hl
  case seq=>split at hl <;> cases hl
  case cond=>split at hl <;> cases hl
  case block=>rw [Â] at hl; obtain ⟨_,_,e⟩:=hl; cases e
  case loop ca =>
   rw [Â] at hl
   obtain ⟨l1,h1,e⟩:=hl
   cases e
   simp only [aR] at he
   refine ZR (fun k a w=>∃ s h hd,w7 (aR C n x) k s = some (ex,s') ∧ Rl nt w0 h0 s.get s.blk a w h hd) (fun a w ⟨s,h,hd,q,_⟩=>by simp [w7] at q) ?_ n a w ⟨s,h,hd,he,r⟩
   rintro k a w ⟨s,h,hd,q,r⟩
   simp only [w7] at q
   split at q
   ·rename_i s1 he1
    exact ih ca s s1 .normal a w h hd _ hF h1 he1 r fun a' w' h' hd' r'=>⟨s1,h',hd',q,r'⟩
   ·rename_i hne
    refine ih ca s s' ex a w h hd _ hF h1 q r fun a' w' h' hd' r'=>?_
    cases ex with
    | normal=>exact absurd q (hne _)
    | exit id=>exact hQ _ _ _ _ r'
    | ret=>exact hQ _ _ _ _ r'
  all_goals cases hl
 | exit id =>
  intro c s s' ex a w h hd Q hF hl he r hQ
  cases c <;> simp only [sM,aH.bare] at hl
  case region=>split at hl <;> first | (cases hl; done) | skip; split at hl <;> first | (cases hl; done) | skip; split at hl <;> cases hl
  case seq=>split at hl <;> cases hl
  case cond=>split at hl <;> cases hl
  case block=>rw [Â] at hl; obtain ⟨_,_,e⟩:=hl; cases e
  case loop=>rw [Â] at hl; obtain ⟨_,_,e⟩:=hl; cases e
  case exit=>cases hl; simp only [aR,Å,Ĕ] at he; obtain ⟨rfl,rfl⟩:=he; exact wp_exit (hQ _ _ _ _ r)
  all_goals cases hl
 | ret =>
  intro c s s' ex a w h hd Q hF hl he r hQ
  cases c <;> simp only [sM,aH.bare] at hl
  case region=>split at hl <;> first | (cases hl; done) | skip; split at hl <;> first | (cases hl; done) | skip; split at hl <;> cases hl
  case seq=>split at hl <;> cases hl
  case cond=>split at hl <;> cases hl
  case block=>rw [Â] at hl; obtain ⟨_,_,e⟩:=hl; cases e
  case loop=>rw [Â] at hl; obtain ⟨_,_,e⟩:=hl; cases e
  case ret=>simp only [aR,Å,Ĕ] at he; obtain ⟨rfl,rfl⟩:=he; exact wp_ret (hQ _ _ _ _ r)
  all_goals cases hl
 | hand g =>
  intro c s s' ex a w h hd Q hF hl he r hQ
  cases c <;> simp only [sM,aH.bare] at hl
  case region=>split at hl <;> first | (cases hl; done) | skip; split at hl <;> first | (cases hl; done) | skip; split at hl <;> cases hl
  case seq=>split at hl <;> cases hl
  case cond=>split at hl <;> cases hl
  case block=>rw [Â] at hl; obtain ⟨_,_,e⟩:=hl; cases e
  case loop=>rw [Â] at hl; obtain ⟨_,_,e⟩:=hl; cases e
  all_goals cases hl
 | inl ops args dst f body res id slots ih =>
  intro c s s' ex a w h hd Q hF hl he r hQ
  cases c <;> simp only [sM,aH.bare] at hl
  case region=>split at hl <;> first | (cases hl; done) | skip; split at hl <;> first | (cases hl; done) | skip; split at hl <;> cases hl
  case seq=>split at hl <;> cases hl
  case cond=>split at hl <;> cases hl
  case block=>rw [Â] at hl; obtain ⟨_,_,e⟩:=hl; cases e
  case loop=>rw [Â] at hl; obtain ⟨_,_,e⟩:=hl; cases e
  all_goals cases hl
 | inlv ops x nc args dst f body res id slots ih =>
  intro c s s' ex a w h hd Q hF hl he r hQ
  cases c <;> simp only [sM,aH.bare] at hl
  case region=>split at hl <;> first | (cases hl; done) | skip; split at hl <;> first | (cases hl; done) | skip; split at hl <;> cases hl
  case seq=>split at hl <;> cases hl
  case cond=>split at hl <;> cases hl
  case block=>rw [Â] at hl; obtain ⟨_,_,e⟩:=hl; cases e
  case loop=>rw [Â] at hl; obtain ⟨_,_,e⟩:=hl; cases e
  all_goals cases hl
 | pre m x ih =>
  intro c s s' ex a w h hd Q hF hl he r hQ
  simp only [aH.bare] at hl
  simp only [aR] at he
  obtain ⟨h',hd',r'⟩:=D7 r m
  exact ih c _ s' ex a w h' hd' Q hF hl he r' hQ
 | post x m ih =>
  intro c s s' ex a w h hd Q hF hl he r hQ
  simp only [aH.bare] at hl
  simp only [aR] at he
  split at he
  ·rename_i s1 he1
   cases he
   refine ih c s s1 .normal a w h hd Q hF hl he1 r fun a' w' h' hd' r'=>?_
   obtain ⟨h'',hd'',r''⟩:=D7 r' m
   exact hQ _ _ _ _ r''
  ·rename_i hne
   exact ih c s s' ex a w h hd Q hF hl he r hQ
end
end Vm
end
section
namespace Vm
open Go.RowKit
def aKy:D->V
 | .tup _=>.any
 | x=>aNS x
def tM:Nat->List D->List (Nat × V)
 | _,[]=>[]
 | i,d :: ds=>(i,aKy d) :: tM (i + 1) ds
def aQl (bl:Nat->Option aL):V->List Nat
 | .own id ver=>match bl id with
  | some (.rows v _ _ _)=>if ver = v then [id] else []
  | _=>[]
 | .mp id=>match bl id with
  | some (.mp _ _)=>[id]
  | _=>[]
 | _=>[]
def aKq (bl:Nat->Option aL):V->List Nat
 | .agg cs=>cs.flatMap (aQl bl)
 | v=>aQl bl v
def VV (bl:Nat->Option aL):V->List Nat
 | .tup vs=>vs.flatMap (aKq bl)
 | v=>aKq bl v
def aKf:List Nat->Nat->Option Nat
 | [],_=>none
 | a :: l,x=>if a = x then some 0 else (aKf l x).map (· + 1)
def inN:List Nat->Nat->Bool
 | [],_=>false
 | a :: l,x=>if a = x then true else inN l x
def aBU:List Nat->Bool
 | []=>true
 | a :: l=>if inN l a = true then false else aBU l
def aHu (bl:Nat->Option aL) (ids:List Nat):V->Option D
 | .d x=>some x
 | .nil=>some (.sl [])
 | .own id ver=>match bl id with
  | some (.rows v _ _ _)=>if ver = v then (aKf ids id).map .ref else none
  | some (.froz v rows)=>if ver = v then some (.sl rows) else none
  | _=>none
 | .mp id=>match bl id with
  | some (.mp _ _)=>(aKf ids id).map .mref
  | some (.fmp ek m)=>some (.mp ek m)
  | _=>none
 | _=>none
def aI5 (bl:Nat->Option aL) (ids:List Nat):V->Option D
 | .agg cs=>(aM (aHu bl ids) cs).map .agg
 | v=>aHu bl ids v
def qI (bl:Nat->Option aL) (ids:List Nat):V->Option D
 | .tup vs=>(aM (aI5 bl ids) vs).map .tup
 | v=>aI5 bl ids v
def aRg (bl:Nat->Option aL) (id:Nat):Option (Nat × Nat):=match bl id with
 | some (.rows _ e size _)=>if size = 0 then none else some (e,size)
 | some (.mp ek _)=>some (ek,0)
 | _=>none
def aQ4 (bl:Nat->Option aL) (id:Nat):Option (List (List D)):=match bl id with
 | some (.rows _ _ _ rows)=>some rows
 | some (.mp _ m)=>some (aRf m)
 | _=>none
def CO (bl:Nat->Option aL) (v:V):Option D :=
 if aBU (VV bl v) = true then
  match qI bl (VV bl v) v,aM (aRg bl) (VV bl v),aM (aQ4 bl) (VV bl v) with
  | some x,some es,some rs=>some (.own x es rs)
  | _,_,_=>none
 else none
def OV (sf:b5) (s:St):Option D:=match aM (zW s) sf.results with
 | none=>none
 | some [v]=>if sf.fresh = true then CO s.blk v else lG s.blk v
 | some vs=>if sf.fresh = true then CO s.blk (.tup vs) else toD s.blk (.tup vs)
def D9 (sf:b5) (s:St) (t:Nat):Option D:=match s.get t with
 | .own id ver=>match s.blk id with
  | some (.rows v e size rows)=>if ver = v then match aM (zW s) sf.results with
    | none=>none
    | some [u]=>match lG s.blk u with
     | some y=>if PF y = true then some (.own y [(e,size)] [rows]) else none
     | none=>none
    | some us=>match toD s.blk (.tup us) with
     | some y=>if PF y = true then some (.own y [(e,size)] [rows]) else none
     | none=>none
   else none
  | _=>none
 | _=>none
def GS (t:Nat) (ds:List D):St:=⟨(t,.own 900000 0) :: tM 0 ds,match (ds[t]?).bind ZA with
 | some (e,size,rows)=>[(900000,some (.rows 0 e size rows))]
 | none=>[]⟩
def FK (t:Nat):aH->Bool
 | .region ops _=>ops.all fun o=>match o.dst with
  | some d=>d != t
  | none=>true
 | .seq a b=>FK t a && FK t b
 | .cond _ a b=>FK t a && FK t b
 | .block _ a=>FK t a
 | .loop a=>FK t a
 | .pre _ a=>FK t a
 | .post a _=>FK t a
 | _=>true
inductive Def where
 | code (sf:b5)
 | told (o:List D->Option D)
 /-- told,and lent a slice -/
 | toldL (o:List D->Option D)
abbrev CJ:=Nat->Option Def
def lD (T:CJ):Nat->Nat->List D->Option D
 | 0,_,_=>none
 | n + 1,f,args=>match T f with
  | none=>none
  | some (.told o)=>if mO 0 args = none then o args else none
  | some (.toldL o)=>if (mO 0 args).isSome = true then o args else none
  | some (.code sf)=>if args.length = sf.np then match mO 0 args with
    | none=>match aR (lD T n) n sf.body ⟨tM 0 args,[]⟩ with
     | some (.normal,s)=>OV sf s
     | some (.ret,s)=>OV sf s
     | _=>none
    | some t=>if sf.lend = true ∧ FK t sf.body = true then match aR (lD T n) n sf.body (GS t args) with
      | some (.normal,s)=>D9 sf s t
      | some (.ret,s)=>D9 sf s t
      | _=>none
     else none
   else none
theorem SJ:∀ (l:List D) (i t:Nat),lk (tM i l) .any t = if i <= t then (match l[t - i]? with | some d=>aKy d | none=>.any) else .any
 | [],i,t=>by simp [tM,lk]
 | d :: l,i,t=>by
  simp only [tM,lk,SJ l (i + 1) t]
  by_cases e:t = i
  ·subst e; simp
  ·rw [Ã e]
   by_cases h:i + 1 <= t
   ·rw [Á h,Á (by omega)]
    have:t - i = (t - (i + 1)) + 1:=by omega
    rw [this,Ć]
   ·rw [Ã h,Ã (by omega)]
section
variable {P:Program}
theorem aGK {h:Hp} {hd:Nat->Value} {bl:Nat->Option aL} {v:Value} {d:D} (r:aW h v d):R3 h hd bl v (aKy d):=by
 cases d with
 | tup vs=>trivial
 | agg cs=>exact R3.of2 (CW r (fun vs e=>by cases e))
 | int k n=>exact R3.of2 (CW r (fun vs e=>by cases e))
 | bool b=>exact R3.of2 (CW r (fun vs e=>by cases e))
 | str s=>exact R3.of2 (CW r (fun vs e=>by cases e))
 | sl rows=>exact R3.of2 (CW r (fun vs e=>by cases e))
 | ptr row off=>exact R3.of2 (CW r (fun vs e=>by cases e))
 | fn f caps=>exact R3.of2 (CW r (fun vs e=>by cases e))
 | np=>exact R3.of2 (CW r (fun vs e=>by cases e))
 | mp ek m=>exact R3.of2 (CW r (fun vs e=>by cases e))
 | ref n=>cases r
 | mref n=>cases r
 | own x es rs=>cases r
theorem BB {nt:Nat} {w0:c8} {w:World} {h0 h:Hp} {s:St} {a:Act} {hd:Nat->Value} (r:Rl nt w0 h0 s.get s.blk a w h hd):∀ (l:List ResultVar) (rs:List qU) (vs:List V),aM (YR P) l = some rs->aM (zW s) rs = some vs ->
  ∃ cvs:List Value,(l.mapM fun x=>(match x with | .tmp t=>pure (a.tmps.getD t undef) | .cell b t=>do loadVar t (← asAddr (a.tmps.getD b undef)):Sem Value)).run P w = .ok cvs w ∧ cvs.length = vs.length ∧ ∀ (j:Nat) (x:V),vs[j]? = some x->R3 h hd s.blk (cvs.getD j undef) x
 | [],rs,vs,h1,h2=>by
  simp only [aM,Å] at h1
  subst h1
  simp only [aM,Å] at h2
  subst h2
  exact ⟨[],by simp,rfl,fun j x hx=>by simp at hx⟩
 | x :: l,rs,vs,h1,h2=>by
  simp only [aM] at h1
  split at h1
  ·cases h1
  ·rename_i y hy
   split at h1
   ·cases h1
   ·rename_i ys hys
    cases h1
    simp only [aM] at h2
    split at h2
    ·cases h2
    ·rename_i v hv
     split at h2
     ·cases h2
     ·rename_i us hus
      cases h2
      obtain ⟨cvs,g1,g2,g3⟩:=BB r l ys us hys hus
      have hone:∃ cv,((match x with | .tmp t=>pure (a.tmps.getD t undef) | .cell b t=>do loadVar t (← asAddr (a.tmps.getD b undef)):Sem Value)).run P w = .ok cv w ∧ R3 h hd s.blk cv v:=by
       cases x with
       | tmp t =>
        simp only [YR,Å] at hy
        subst hy
        simp only [zW,Å] at hv
        subst hv
        exact ⟨_,rfl,r.frame t⟩
       | cell b t =>
        simp only [YR] at hy
        split at hy
        ·rename_i ag i hag hi
         cases hy
         simp only [zW] at hv
         split at hv
         ·rename_i v' wr hload
          cases hv
          have:=aGu (P:=P) (C:=fun _ _=>none) (site:=0) (x:=.t b) (xv:=a.tmps.getD b undef) r hag hi (r.frame b) (v:=v) (wr:=wr) (by simpa [iB,cZ] using hload)
          obtain ⟨_,cv,q1,q2⟩:=this
          refine ⟨cv,?_,q2⟩
          cases hp:a.tmps.getD b undef <;> rw [hp] at q1 <;> first | (simp [Instr.loadAt,Instr.sureAddr] at q1; done) | skip
          rename_i ao
          cases ao with
          | none=>simp [Instr.loadAt,Instr.sureAddr] at q1
          | some ad =>
           have hp' : a.tmps[b]?.getD undef = .pointer (some ad):=by simpa using hp
           simpa [Instr.loadAt,Instr.sureAddr,asAddr,hp'] using q1
         ·cases hv
        ·cases hy
      obtain ⟨cv,q1,q2⟩:=hone
      refine ⟨cv :: cvs,?_,by simp [g2],fun j z hz=>?_⟩
      ·rw [List.mapM_cons]
       simp only [þ,q1,ć,g1,ı]
      ·cases j with
       | zero=>simp at hz; subst hz; simpa using q2
       | succ j=>simpa using g3 j z (by simpa using hz)
theorem aW.toF {base:c8} {w:World} {h:Hp} {v:Value} {x:D} (r:aW h v x):DZ base w h v x:=by
 cases x <;> first | exact r | (cases r; done)
theorem aEI {bl:Nat->Option aL} {vs:List V} {x:D} (e:CO bl (.tup vs) = some x) {j:Nat} {z:V} (hz:vs[j]? = some z):∃ y,aI5 bl (VV bl (.tup vs)) z = some y:=by
 unfold CO at e
 split at e
 ·split at e
  ·rename_i y es rs hy hes hrs
   simp only [qI,Â] at hy
   obtain ⟨ds,hm,_⟩:=hy
   obtain ⟨y,_,h2⟩:=(bN hm).2 j z hz
   exact ⟨y,h2⟩
  ·cases e
 ·cases e
theorem U7:∀ {l:List Nat} {x n:Nat},aKf l x = some n->l[n]? = some x
 | [],x,n,e=>by cases e
 | a :: l,x,n,e=>by
  simp only [aKf] at e
  split at e
  ·rename_i hx; cases e; simp [hx]
  ·rw [Â] at e
   obtain ⟨m,h1,rfl⟩:=e
   simpa using U7 h1
theorem U4:∀ {l:List Nat} {x:Nat},inN l x = false->∀ n:Nat,l[n]? ≠ some x
 | [],x,_,n=>by simp
 | a :: l,x,e,n=>by
  simp only [inN] at e
  split at e
  ·cases e
  ·rename_i hx
   cases n with
   | zero=>simpa using hx
   | succ n=>simpa using U4 e n
theorem ZH:∀ {l:List Nat},aBU l = true->∀ {n m x:Nat},l[n]? = some x->l[m]? = some x->n = m
 | [],_,n,m,x,h1,h2=>by simp at h1
 | a :: l,e,n,m,x,h1,h2=>by
  simp only [aBU] at e
  split at e
  ·cases e
  ·rename_i hx
   have hx:inN l a = false:=by simpa using hx
   cases n with
   | zero=>cases m with
    | zero=>rfl
    | succ m=>simp at h1 h2; subst h1; exact absurd h2 (U4 hx m)
   | succ n=>cases m with
    | zero=>simp at h1 h2; subst h2; exact absurd h1 (U4 hx n)
    | succ m=>simp at h1 h2; rw [ZH e h1 h2]
theorem aMb {site n m:Nat} (e:IZ site n = IZ site m):n = m:=by unfold IZ at e; omega
theorem aJb (site n:Nat):(IZ site n - site) / 100000 - 1 = n:=by
 unfold IZ
 rw [Ū,Nat.mul_div_cancel_left _ (by decide)]
 omega
theorem ZI (site:Nat):∀ (es:List (Nat × Nat)) (rs:List (List (List D))) (k n:Nat) (e size:Nat) (rows:List (List D)),es[n]? = some (e,size)->rs[n]? = some rows->lk (i9 site k es rs) none (IZ site (k + n)) = some (E6 e size rows)
 | [],rs,k,n,e,size,rows,h1,h2=>by simp at h1
 | p :: es,[],k,n,e,size,rows,h1,h2=>by simp at h2
 | (e',s') :: es,r :: rs,k,n,e,size,rows,h1,h2=>by
  simp only [i9,lk]
  cases n with
  | zero=>simp at h1 h2; simp [h1,h2]
  | succ n =>
   rw [Ã (fun q=>by have:=aMb q; omega),show k + (n + 1) = (k + 1) + n by omega]
   exact ZI site es rs (k + 1) n e size rows (by simpa using h1) (by simpa using h2)
theorem M3 (site:Nat):∀ (es:List (Nat × Nat)) (rs:List (List (List D))) (k id:Nat) (b:aL),lk (i9 site k es rs) none id = some b->∃ n e size rows,id = IZ site (k + n) ∧ es[n]? = some (e,size) ∧ rs[n]? = some rows ∧ b = E6 e size rows
 | [],rs,k,id,b,h=>by simp [i9,lk] at h
 | p :: es,[],k,id,b,h=>by simp [i9,lk] at h
 | (e',s') :: es,r :: rs,k,id,b,h=>by
  simp only [i9,lk] at h
  split at h
  ·rename_i hi
   cases h
   exact ⟨0,e',s',r,hi,rfl,rfl,rfl⟩
  ·obtain ⟨n,e,size,rows,h1,h2,h3,h4⟩:=M3 site es rs (k + 1) id b h
   exact ⟨n + 1,e,size,rows,by rw [h1,show k + 1 + n = k + (n + 1) by omega],by simpa using h2,by simpa using h3,h4⟩
theorem aGU:∀ m:List (Int × ML),aQI (aRf m) = m
 | []=>rfl
 | (k,v) :: r=>by
  have:=aGU r
  unfold aQI aRf at *
  rw [ø,ø,this]
  cases v <;> rfl
def J6:aL->Option aL
 | .rows _ e size rows=>if size = 0 then none else some (.rows 0 e size rows)
 | .mp ek m=>some (.mp ek m)
 | _=>none
theorem aA4 {bl:Nat->Option aL} {id e size:Nat} {rows:List (List D)} (h:aRg bl id = some (e,size)) (h2:aQ4 bl id = some rows):∃ b,bl id = some b ∧ J6 b = some (E6 e size rows):=by
 unfold aRg at h
 unfold aQ4 at h2
 cases hb:bl id with
 | none=>rw [hb] at h; cases h
 | some b =>
  rw [hb] at h h2
  refine ⟨b,rfl,?_⟩
  cases b <;> simp only at h h2 <;> first | (cases h; done) | skip
  ·split at h
   ·cases h
   ·rename_i hs
    cases h
    cases h2
    simp only [J6,E6,Ã hs]
  ·cases h
   cases h2
   simp only [J6,E6,Č,aGU]
section
variable {nt:Nat} {w0:c8} {w:World} {h0 h:Hp} {fr:Nat->V} {bl:Nat->Option aL} {a:Act} {hd hd0:Nat->Value} {nb:Nat->Option aL} {ids:List Nat} {site:Nat}
theorem aG4 (r:Rl nt w0 h0 fr bl a w h hd) (hnew:∀ n id b b',ids[n]? = some id->bl id = some b->J6 b = some b'->nb (IZ site n) = some b') (hhd:∀ n id,ids[n]? = some id->hd0 (IZ site n) = hd id)
  {u:Value} {z:V} (hu:R1 h hd bl u z) {d:D} (e:aHu bl ids z = some d):R1 h hd0 nb u (aDg site d) ∧ d.atom = true:=by
 cases z with
 | d x =>
  cases e
  obtain ⟨g1,g2⟩:=hu
  refine ⟨?_,g1⟩
  cases d <;> first | exact ⟨g1,g2⟩ | (cases g2; done)
 | nil =>
  cases e
  exact ⟨⟨rfl,by rw [show u = _ from hu]; exact .sl0 none 0 (fun _=>rfl)⟩,rfl⟩
 | own id ver =>
  obtain ⟨b,c,hb,hc,hle,h1,he⟩:=hu
  simp only [aHu,hb] at e
  cases b with
  | rows v e' s rows =>
   simp only at e
   split at e
   ·rename_i hv
    rw [Â] at e
    obtain ⟨n,hn,rfl⟩:=e
    have hi:=U7 hn
    have hs:¬ s = 0:=by have:=(r.blk id _ hb).1; omega
    refine ⟨⟨_,0,hnew n id _ (.rows 0 e' s rows) hi hb (by simp only [J6,Ã hs]),rfl,É _,h1,fun _=>?_⟩,rfl⟩
    rw [hhd n id hi]
    exact he (by simp only [aL.ver?,Å] at hc; omega)
   ·cases e
  | froz v rows =>
   simp only at e
   split at e
   ·rename_i hv
    cases e
    refine ⟨⟨rfl,?_⟩,rfl⟩
    rw [he (by simp only [aL.ver?,Å] at hc; omega)]
    exact r.blk id _ hb
   ·cases e
  | _=>cases e
 | mp id =>
  obtain ⟨⟨b,hb,hbx⟩,rfl,g,hg⟩:=hu
  simp only [aHu,hb] at e
  cases b with
  | mp ek m =>
   simp only at e
   rw [Â] at e
   obtain ⟨n,hn,rfl⟩:=e
   have hi:=U7 hn
   exact ⟨⟨⟨_,hnew n id _ (.mp ek m) hi hb rfl,rfl⟩,(hhd n id hi).symm,g,(hhd n id hi).trans hg⟩,rfl⟩
  | fmp ek m =>
   simp only [Å] at e
   subst e
   exact ⟨⟨rfl,r.blk id _ hb⟩,rfl⟩
  | _=>cases e
 | _=>cases e
theorem aG3 (r:Rl nt w0 h0 fr bl a w h hd) (hnew:∀ n id b b',ids[n]? = some id->bl id = some b->J6 b = some b'->nb (IZ site n) = some b') (hhd:∀ n id,ids[n]? = some id->hd0 (IZ site n) = hd id)
  {u:Value} {z:V} (hu:R2 h hd bl u z) {d:D} (e:aI5 bl ids z = some d):R2 h hd0 nb u (aAT site d) ∧ d.noTup = true:=by
 have one:R1 h hd bl u z->aHu bl ids z = some d->R2 h hd0 nb u (aAT site d) ∧ d.noTup = true:=fun q1 q2=>by
  obtain ⟨g1,g2⟩:=aG4 r hnew hhd q1 q2
  cases d <;> first | (cases g2; done) | exact ⟨R2.of1 g1,rfl⟩
 cases z with
 | agg cs =>
  obtain ⟨arr,rfl,hl,hc⟩:=hu
  simp only [aI5,Â] at e
  obtain ⟨ds,hm,rfl⟩:=e
  obtain ⟨m1,m2⟩:=bN hm
  refine ⟨⟨arr,rfl,by simp; omega,fun j x hx=>?_⟩,rfl⟩
  rw [Ç,Â] at hx
  obtain ⟨y,hy,rfl⟩:=hx
  obtain ⟨z,z1,z2⟩:=cV hm hy
  exact ⟨(aG4 r hnew hhd (hc j z z1).1 z2).1,(hc j z z1).2⟩
 | _=>exact one hu e
theorem aQO (r:Rl nt w0 h0 fr bl a w h hd) (hnew:∀ n id b b',ids[n]? = some id->bl id = some b->J6 b = some b'->nb (IZ site n) = some b') (hhd:∀ n id,ids[n]? = some id->hd0 (IZ site n) = hd id)
  {u:Value} {z:V} (hu:R3 h hd bl u z) {d:D} (e:qI bl ids z = some d):R3 h hd0 nb u (thaw site d):=by
 have one:R2 h hd bl u z->aI5 bl ids z = some d->R3 h hd0 nb u (thaw site d):=fun q1 q2=>by
  obtain ⟨g1,g2⟩:=aG3 r hnew hhd q1 q2
  cases d <;> first | (cases g2; done) | exact R3.of2 g1
 cases z with
 | tup vs =>
  obtain ⟨arr,rfl,hl,hc⟩:=hu
  simp only [qI,Â] at e
  obtain ⟨ds,hm,rfl⟩:=e
  obtain ⟨m1,m2⟩:=bN hm
  refine ⟨arr,rfl,by simp; omega,fun j x hx=>?_⟩
  rw [Ç,Â] at hx
  obtain ⟨y,hy,rfl⟩:=hx
  obtain ⟨z,z1,z2⟩:=cV hm hy
  exact (aG3 r hnew hhd (hc j z z1) z2).1
 | _=>exact one hu e
theorem aDb (r:Rl nt w0 h0 fr bl a w h hd) {cv:Value} {v:V} (hv:R3 h hd bl cv v) {x:D} (e:CO bl v = some x):DZ w0 w h cv x:=by
 unfold CO at e
 split at e
 ·rename_i hnd
  split at e
  ·rename_i y es rs hy hes hrs
   cases e
   intro site
   generalize hids:VV bl v = ids at hnd hy hes hrs
   have hhd:∀ n id,ids[n]? = some id->(fun i=>hd (ids.getD ((i - site) / 100000 - 1) 0)) (IZ site n) = hd id:=fun n id hn=>by
    simp only [aJb,Ý,hn,ī]
   have hE:=bN hes
   have hR:=bN hrs
   have hnew:∀ n id b b',ids[n]? = some id->bl id = some b->J6 b = some b'->W2 site es rs (IZ site n) = some b':=fun n id b b' hn hb hg=>by
    obtain ⟨⟨e1,s1⟩,g1,g2⟩:=hE.2 n id hn
    obtain ⟨rows1,g3,g4⟩:=hR.2 n id hn
    obtain ⟨b0,q1,q2⟩:=aA4 g2 g4
    rw [hb] at q1
    cases q1
    rw [hg] at q2
    cases q2
    have:=ZI site es rs 0 n e1 s1 rows1 g1 g3
    rw [Ĥ] at this
    exact this
   have hback:∀ i b,W2 site es rs i = some b->∃ n id b0,i = IZ site n ∧ ids[n]? = some id ∧ bl id = some b0 ∧ J6 b0 = some b:=fun i b hb=>by
    obtain ⟨n,e,size,rows,h1,h2,h3,h4⟩:=M3 site es rs 0 i b hb
    obtain ⟨id,g1,g2⟩:=cV hes h2
    obtain ⟨y2,g4,g5⟩:=hR.2 n id g1
    rw [h3] at g4
    cases g4
    obtain ⟨b0,q1,q2⟩:=aA4 g2 g5
    exact ⟨n,id,b0,by rw [h1,Ĥ],g1,q1,by rw [q2,h4]⟩
   have hlv:∀ b0 b:aL,J6 b0 = some b->b0.live = true:=fun b0 b hg=>by
    cases b0 <;> first | rfl | (simp [J6] at hg)
   refine ⟨fun i=>hd (ids.getD ((i - site) / 100000 - 1) 0),aQO r hnew hhd hv hy,fun i b hb=>?_,fun i j bi bj g hi hj gi gj=>?_⟩
   ·obtain ⟨n,id,b0,rfl,h2,h3,h4⟩:=hback i b hb
    have hb':=r.blk id _ h3
    have hh:=hhd n id h2
    cases b0 with
    | rows ver e size rows =>
     simp only [J6] at h4
     split at h4
     ·cases h4
     ·cases h4
      obtain ⟨k1,k2,⟨xs,k3,k4⟩,k5⟩:=hb'
      exact ⟨k1,k2,⟨xs,by rw [hh]; exact k3,k4⟩,by rw [hh]; exact k5⟩
    | mp ek m =>
     simp only [J6,Å] at h4
     subst h4
     obtain ⟨g,k1,k2⟩:=hb'
     exact ⟨g,hh.trans k1,k2⟩
    | _=>cases h4
   ·obtain ⟨n,id,b0,rfl,h2,h3,h4⟩:=hback i bi hi
    obtain ⟨m,id',b0',rfl,h2',h3',h4'⟩:=hback j bj hj
    rw [hhd n id h2] at gi
    rw [hhd m id' h2'] at gj
    have:=r.sep id id' _ _ g h3 h3' (hlv _ _ h4) (hlv _ _ h4') gi gj
    subst this
    rw [ZH hnd h2 h2']
  ·cases e
 ·cases e
end
def bC (P:Program) (nt:Nat) (c:Code) (sc:aH):Prop:=∀ (C:Nat->List D->Option D),vV P C->∀ (n:Nat) (w0:c8) (h0:Hp) (s s' : St) (ex:Ex) (a:Act) (w:World) (h:Hp) (hd:Nat->Value) (Q:Exit->Act->World->Prop),
 (∀ t,w0.F t = none)->aR C n sc s = some (ex,s')->Rl nt w0 h0 s.get s.blk a w h hd->(∀ a' w' h' hd',Rl nt w0 h0 s'.get s'.blk a' w' h' hd'->Q ex.go a' w')->c.wp P Q a w
def c8.re (b:c8) (w:World) (X:Nat->Prop) (F:Nat->Option Value) (O:Nat->Nat->Value) (M:List Deferred):c8:={ w with L:=fun g=>b.own g ∧ ¬ X g ∧ g < w.heap.size,F:=F,O:=O,M:=M }
section
variable {P:Program} {nt:Nat} {w0:c8} {w w' w2:World} {h0 h h' : Hp} {fr fr' : Nat->V} {bl bl' : Nat->Option aL} {a a' : Act} {hd hd' : Nat->Value} {X:Nat->Prop} {F:Nat->Option Value} {O:Nat->Nat->Value} {M:List Deferred}
theorem zY (hs:w0.heap.size <= w.heap.size) {g:Nat} (h:(w0.re w X F O M).own g):w0.own g:=by
 rcases h with h | h
 ·exact .inl (ñ hs h)
 ·exact h.1
theorem aBm {g:Nat} (h:w0.own g) (hx:¬ X g):(w0.re w X F O M).own g:=by
 by_cases hg:w.heap.size <= g
 ·exact .inl hg
 ·exact .inr ⟨h,hx,by omega⟩
theorem aKw {g:Nat} (hx:X g) (hg:g < w.heap.size):¬ (w0.re w X F O M).own g:=by
 rintro (h | h)
 ·exact absurd h (Nat.not_le_of_lt hg)
 ·exact h.2.1 hx
theorem Rl.re (r:Rl nt w0 h0 fr bl a w h hd) {row:Option Nat} (hg:w.grownBy w2 row) (hr:∀ g,row = some g->h g = none ∧ X g) (hX:∀ g,X g->∀ id b,bl id = some b->b.live = true->jH (hd id) ≠ some g)
  (hO:∀ id cs,bl id = some (.outer cs)->O id = w0.O id) (hF:∀ t v,F t = some v->a.tmps.getD t undef = v) (hM:a.defers = M):Rl nt (w0.re w2 X F O M) h fr bl a w2 h hd where
 tmps:=r.tmps
 defers:=hM
 fixed:=hF
 below:=GE.refl _ _
 hle:=fun b o e=>by
  have h1:=r.hle b o e
  refine (hg.block b (Ï.1 h1).1 fun q=>?_).trans h1
  rw [(hr b q.symm).1] at e; cases e
 h0le:=Hp.le.refl _
 hbase:=fun _ _=>rfl
 frame:=r.frame
 blk:=fun id b hb=>by
  have rb:=r.blk id b hb
  have hkeep:BR w0 w2 h hd bl id b:=rb.keep (Hp.le.refl _) (Kp.refl _ _) rfl fun hl g hg'=>⟨hg.block g (rb.num hl hg').2.1 fun q=>hX g (hr g q.symm).2 id b hb hl hg',fun q=>q⟩
  cases b with
  | box cs =>
   obtain ⟨g,arr,e,h1,h2,h3⟩:=hkeep
   exact ⟨g,arr,e,h1,aBm h2 (fun q=>hX g q id _ hb rfl (by rw [h1]; rfl)),h3⟩
  | rows ver e size rows =>
   obtain ⟨h1,h2,h3,h4⟩:=hkeep
   exact ⟨h1,h2,h3,fun g hg=>⟨(h4 g hg).1,aBm (h4 g hg).2 (fun q=>hX g q id _ hb rfl hg)⟩⟩
  | froz ver rows=>exact hkeep
  | fbox cs=>exact hkeep
  | mp ek m =>
   obtain ⟨g,h1,h2,h3⟩:=hkeep
   exact ⟨g,h1,aBm h2 (fun q=>hX g q id _ hb rfl (by rw [h1]; rfl)),h3⟩
  | fmp ek m=>exact hkeep
  | outer cs =>
   intro j x hx
   show R3 h hd bl (O id j) x
   rw [hO id cs hb]
   exact hkeep j x hx
 sep:=r.sep
end
def aBV (D:Nat):Deferred:={ target:=.collected D,args:=#[] }
def shut (Ds:List Nat) (w:World):World:=Ds.foldl (fun w D=>w.putObj D (.deferred none)) w
structure KJ (w0:c8) (h0:Hp) (b:c8) (hb:Hp):Prop where
 bel:GE w0 w0.toWorld b.toWorld
 le:h0.le hb
 base:∀ g,¬ w0.own g->hb g = h0 g
 own:∀ g,b.own g->w0.own g
structure TB (w0 b:c8) (hb:Hp) (Ds:List Nat):Prop where
 F:∀ t,b.F t = none
 M:b.M = Ds.map aBV ++ w0.M
 nodup:Ds.Nodup
 here:∀ D ∈ Ds,w0.own D ∧ ¬ b.own D ∧ b.heap[D]? = some (.deferred (some [])) ∧ hb D = none
theorem KJ.refl (w0:c8) (h0:Hp):KJ w0 h0 w0 h0:=⟨GE.refl _ _,Hp.le.refl _,fun _ _=>rfl,fun _ h=>h⟩
theorem TB.refl {w0:c8} {h0:Hp} (hF:∀ t,w0.F t = none):TB w0 w0 h0 []:=⟨hF,rfl,List.Pairwise.nil,fun _ h=>by cases h⟩
theorem KJ.trans {w0 b b2:c8} {h0 hb hb2:Hp} (u:KJ w0 h0 b hb) (v:KJ b hb b2 hb2):KJ w0 h0 b2 hb2 :=
 ⟨u.bel.trans ⟨v.bel.os,v.bel.tape,v.bel.output,v.bel.size,fun k hk=>v.bel.block k fun q=>hk (u.own k q)⟩,u.le.trans v.le,fun g hg=>(v.base g fun q=>hg (u.own g q)).trans (u.base g hg),fun g hg=>u.own g (v.own g hg)⟩
theorem TB.trans {w0 b b2:c8} {h0 hb hb2:Hp} {Ds Es:List Nat} (u:KJ w0 h0 b hb) (v:KJ b hb b2 hb2) (m:TB w0 b hb Ds) (n:TB b b2 hb2 Es):TB w0 b2 hb2 (Es ++ Ds) where
 F:=n.F
 M:=by rw [n.M,m.M,Ă,è]
 nodup:=List.nodup_append.2 ⟨n.nodup,m.nodup,fun x hx y hy e=>(m.here y hy).2.1 (e ▸ (n.here x hx).1)⟩
 here:=fun D hD=>by
  rcases Ê.1 hD with q | q
  ·obtain ⟨h1,h2,h3,h4⟩:=n.here D q
   exact ⟨u.own D h1,h2,h3,h4⟩
  ·obtain ⟨h1,h2,h3,h4⟩:=m.here D q
   exact ⟨h1,fun z=>h2 (v.own D z),(v.bel.block D h2).trans h3,(v.base D h2).trans h4⟩
def kL (P:Program) (nt:Nat) (c:Code) (sc:aH):Prop:=∀ (C:Nat->List D->Option D),vV P C->∀ (n:Nat) (w0:c8) (h0:Hp) (s s' : St) (ex:Ex) (a:Act) (w:World) (h:Hp) (hd:Nat->Value) (Q:Exit->Act->World->Prop),
 (∀ t,w0.F t = none)->aR C n sc s = some (ex,s')->Rl nt w0 h0 s.get s.blk a w h hd->(∀ b hb Ds a' w' h' hd',KJ w0 h0 b hb->TB w0 b hb Ds->Rl nt b hb s'.get s'.blk a' w' h' hd'->Q ex.go a' w')->c.wp P Q a w
theorem bC.to {nt:Nat} {c:Code} {sc:aH} (h:bC P nt c sc):kL P nt c sc :=
 fun C hC n w0 h0 s s' ex a w h' hd Q hF he r hQ=>h C hC n w0 h0 s s' ex a w h' hd Q hF he r fun a' w' h' hd' r'=>hQ w0 h0 [] a' w' h' hd' (KJ.refl _ _) (TB.refl hF) r'
theorem kL.seq {nt:Nat} {c d:Code} {x y:aH} (h1:kL P nt c x) (h2:kL P nt d y):kL P nt (.seq c d) (.seq x y):=by
 intro C hC n w0 h0 s s' ex a w h hd Q hF he r hQ
 refine wp_seq ?_
 simp only [aR] at he
 split at he
 ·rename_i s1 he1
  exact h1 C hC n w0 h0 s s1 .normal a w h hd _ hF he1 r fun b hb Ds a' w' h' hd' u m r'=>h2 C hC n b hb s1 s' ex a' w' h' hd' Q m.F he r' fun b2 hb2 Es a'' w'' h'' hd'' v k r''=>hQ b2 hb2 (Es ++ Ds) a'' w'' h'' hd'' (u.trans v) (TB.trans u v m k) r''
 ·rename_i hne
  refine h1 C hC n w0 h0 s s' ex a w h hd _ hF he r fun b hb Ds a' w' h' hd' u m r'=>?_
  cases ex with
  | normal=>exact absurd he (hne _)
  | exit id=>exact hQ _ _ _ _ _ _ _ u m r'
  | ret=>exact hQ _ _ _ _ _ _ _ u m r'
theorem kL.pre {nt:Nat} {c:Code} {x:aH} (m:BE) (h1:kL P nt c x):kL P nt c (.pre m x):=by
 intro C hC n w0 h0 s s' ex a w h hd Q hF he r hQ
 simp only [aR] at he
 obtain ⟨h',hd',r'⟩:=D7 r m
 exact h1 C hC n w0 h0 _ s' ex a w h' hd' Q hF he r' hQ
theorem kL.post {nt:Nat} {c:Code} {x:aH} (m:BE) (h1:kL P nt c x):kL P nt c (.post x m):=by
 intro C hC n w0 h0 s s' ex a w h hd Q hF he r hQ
 simp only [aR] at he
 split at he
 ·rename_i s1 he1
  cases he
  refine h1 C hC n w0 h0 s s1 .normal a w h hd Q hF he1 r fun b hb Ds a' w' h' hd' u k r'=>?_
  obtain ⟨h'',hd'',r''⟩:=D7 r' m
  exact hQ _ _ _ _ _ _ _ u k r''
 ·rename_i hne
  exact h1 C hC n w0 h0 s s' ex a w h hd Q hF he r hQ
theorem kL.block {nt:Nat} {c:Code} {x:aH} {id:Nat} (h1:kL P nt c x):kL P nt (.block id c) (.block id x):=by
 intro C hC n w0 h0 s s' ex a w h hd Q hF he r hQ
 refine wp_block ?_
 simp only [aR] at he
 split at he
 ·rename_i id'' s1 he1
  refine h1 C hC n w0 h0 s s1 (.exit id'') a w h hd _ hF he1 r fun b hb Ds a' w' h' hd' u m r'=>?_
  simp only [Ex.go,Exit.inBlock]
  split at he
  ·rename_i hid
   cases he
   rw [Á hid]
   exact hQ _ _ _ _ _ _ _ u m r'
  ·rename_i hid
   cases he
   rw [Ã hid]
   exact hQ _ _ _ _ _ _ _ u m r'
 ·rename_i hne
  refine h1 C hC n w0 h0 s s' ex a w h hd _ hF he r fun b hb Ds a' w' h' hd' u m r'=>?_
  cases ex with
  | normal=>exact hQ _ _ _ _ _ _ _ u m r'
  | exit id=>exact absurd he (hne _ _)
  | ret=>exact hQ _ _ _ _ _ _ _ u m r'
theorem kL.cond {nt:Nat} {co:Operand} {l:d7} {c d:Code} {x y:aH} (hl:qM co = some l) (h1:kL P nt c x) (h2:kL P nt d y):kL P nt (.cond co c d) (.cond l x y):=by
 intro C hC n w0 h0 s s' ex a w h hd Q hF he r hQ
 have hc:=eE r.frame hl
 simp only [aR] at he
 split at he
 ·rename_i hb
  rw [hb] at hc
  exact wp_cond_true (mZ hc) (h1 C hC n w0 h0 s s' ex a w h hd Q hF he r hQ)
 ·rename_i hb
  rw [hb] at hc
  exact Ş (mZ hc) (h2 C hC n w0 h0 s s' ex a w h hd Q hF he r hQ)
 ·cases he
theorem Rl.un {nt:Nat} {w0 b:c8} {w:World} {h0 hb h:Hp} {fr:Nat->V} {bl:Nat->Option aL} {a:Act} {hd:Nat->Value} (r:Rl nt b hb fr bl a w h hd) (u:KJ w0 h0 b hb):GE w0 w0.toWorld w ∧ h0.le h ∧ ∀ g,¬ w0.own g->h g = h0 g :=
 ⟨u.bel.trans ⟨r.below.os,r.below.tape,r.below.output,r.below.size,fun k hk=>r.below.block k fun q=>hk (u.own k q)⟩,u.le.trans r.h0le,fun g hg=>(r.hbase g fun q=>hg (u.own g q)).trans (u.base g hg)⟩
theorem DZ.within {b0 b1:c8} (hle:∀ g,b1.own g->b0.own g) {w:World} {h:Hp} {v:Value} {x:D} (r:DZ b1 w h v x):DZ b0 w h v x:=by
 cases x with
 | own y es rs =>
  intro site
  obtain ⟨hd0,h1,h2,h3⟩:=r site
  refine ⟨hd0,h1,fun id b hb=>?_,h3⟩
  refine BR.base hle (.inl ?_) (h2 id b hb)
  obtain ⟨_,_,_,_,_,_,_,q⟩:=M3 site es rs 0 id b (by
   have hb':=hb
   unfold W2 cC at hb'
   exact hb')
  rw [q]
  unfold E6
  split <;> rfl
 | _=>exact r
theorem WD {F:Fence} {n:Nat} {P:Program} {fn:Func} {tmps:Array Value} {R:Ending->World->Prop}:∀ (Ds:List Nat) (w:World),Ds.Nodup->(∀ D ∈ Ds,w.heap[D]? = some (.deferred (some [])))->(∃ v,(results fn tmps).run P (shut Ds w) = .ok v (shut Ds w) ∧ R (.returned v) (shut Ds w))->LeavesInM F n P fn tmps R (Ds.map aBV) .returning w
 | [],w,_,_,h=>h
 | D :: Ds,w,hn,hD,h=>by
  have hn':=Œ.1 hn
  refine ⟨by simp,.inl ⟨D,_,rfl,run_takeDeferred (hD D (by simp)),WD Ds _ hn'.2 (fun E hE=>?_) h⟩⟩
  have hne:E ≠ D:=fun e=>hn'.1 (by rw [← e]; exact hE)
  exact (World.putObj_heap_other hne).trans (hD E (by simp [hE]))
theorem Rl.shut {nt:Nat} {w0:c8} {h0:Hp} {fr:Nat->V} {bl:Nat->Option aL} {a:Act} {h:Hp} {hd:Nat->Value}:∀ (Ds:List Nat) (w:World) (b:c8) (hb:Hp),KJ w0 h0 b hb->(∀ D ∈ Ds,w0.own D ∧ ¬ b.own D ∧ h D = none)->Rl nt b hb fr bl a w h hd->∃ b',KJ w0 h0 b' h ∧ Rl nt b' h fr bl a (shut Ds w) h hd
 | [],w,b,hb,u,_,r=>⟨b.re w (fun _=>False) (fun _=>none) b.O a.defers,⟨(r.un u).1,(r.un u).2.1,(r.un u).2.2,fun g q=>u.own g (zY r.below.size q)⟩,r.re (w2:=w) (row:=none) ⟨rfl,rfl,rfl,É _,fun _ _ _=>rfl⟩ (fun g e=>by cases e) (fun g e=>e.elim) (fun _ _ _=>rfl) (fun t v e=>by cases e) rfl⟩
 | D :: Ds,w,b,hb,u,hD,r=>by
  obtain ⟨d1,d2,d3⟩:=hD D (by simp)
  have hs:b.heap.size <= (w.putObj D (.deferred none)).heap.size:=by rw [World.putObj_size]; exact r.below.size
  have r1:=r.re (w2:=w.putObj D (.deferred none)) (row:=some D) (X:=fun g=>g = D) (F:=fun _=>none) (O:=b.O) (M:=a.defers) ⟨rfl,rfl,rfl,by simp,fun k _ hk=>World.putObj_heap_other (fun e=>hk (by rw [e]))⟩ (fun g e=>by cases e; exact ⟨d3,rfl⟩)
   (fun g e i c hb hl q=>by subst e; exact d2 ((r.blk i c hb).num hl q).1) (fun _ _ _=>rfl) (fun t v e=>by cases e) rfl
  refine Rl.shut Ds _ _ h ⟨?_,(r.un u).2.1,(r.un u).2.2,fun g q=>u.own g (zY hs q)⟩ (fun E hE=>?_) r1
  ·refine (r.un u).1.trans ⟨rfl,rfl,rfl,by simp [c8.re],fun k hk=>World.putObj_heap_other fun e=>hk (e ▸ d1)⟩
  ·obtain ⟨e1,e2,e3⟩:=hD E (by simp [hE])
   exact ⟨e1,fun q=>e2 (zY hs q),e3⟩
def T4 (P:Program) (fn:Func) (sf:b5):Prop :=
 fn.params.size + fn.nfree = sf.np ∧ fn.name ≠ "runtime.NumGoroutine" ∧ fn.ntmps = sf.nt ∧ sf.np <= sf.nt ∧ aM (YR P) fn.results.toList = some sf.results ∧ ∃ c,fn.body = some c ∧ (P.follows .mixedOrders = true->kL P sf.nt c sf.body) ∧ (sf.lend = true->sM P sf.nt c = some sf.body.bare)
theorem bC.low {nt:Nat} {c:Code} {sc:aH} (hm:P.follows .mixedOrders = true) (h:sM P nt c = some sc.bare):bC P nt c sc :=
 fun C hC n w0 h0 s s' ex a w h' hd Q hF he r hQ=>aBI hC hm n sc c s s' ex a w h' hd Q (B2.none hF c) h he r hQ
theorem i8.g {fn:Func} {sf:b5} (l:i8 P fn sf):T4 P fn sf:=by
 obtain ⟨l1,l2,l3,l4,l5,c,l6,l7⟩:=l
 exact ⟨l1,l2,l3,l4,l5,c,l6,fun hm=>(bC.low hm l7).to,fun _=>l7⟩
theorem bC.seq {nt:Nat} {c d:Code} {x y:aH} (h1:bC P nt c x) (h2:bC P nt d y):bC P nt (.seq c d) (.seq x y):=by
 intro C hC n w0 h0 s s' ex a w h hd Q hF he r hQ
 refine wp_seq ?_
 simp only [aR] at he
 split at he
 ·rename_i s1 he1
  exact h1 C hC n w0 h0 s s1 .normal a w h hd _ hF he1 r fun a' w' h' hd' r'=>h2 C hC n w0 h0 s1 s' ex a' w' h' hd' Q hF he r' hQ
 ·rename_i hne
  refine h1 C hC n w0 h0 s s' ex a w h hd _ hF he r fun a' w' h' hd' r'=>?_
  cases ex with
  | normal=>exact absurd he (hne _)
  | exit id=>exact hQ _ _ _ _ r'
  | ret=>exact hQ _ _ _ _ r'
theorem bC.pre {nt:Nat} {c:Code} {x:aH} (m:BE) (h1:bC P nt c x):bC P nt c (.pre m x):=by
 intro C hC n w0 h0 s s' ex a w h hd Q hF he r hQ
 simp only [aR] at he
 obtain ⟨h',hd',r'⟩:=D7 r m
 exact h1 C hC n w0 h0 _ s' ex a w h' hd' Q hF he r' hQ
theorem bC.post {nt:Nat} {c:Code} {x:aH} (m:BE) (h1:bC P nt c x):bC P nt c (.post x m):=by
 intro C hC n w0 h0 s s' ex a w h hd Q hF he r hQ
 simp only [aR] at he
 split at he
 ·rename_i s1 he1
  cases he
  refine h1 C hC n w0 h0 s s1 .normal a w h hd Q hF he1 r fun a' w' h' hd' r'=>?_
  obtain ⟨h'',hd'',r''⟩:=D7 r' m
  exact hQ _ _ _ _ r''
 ·rename_i hne
  exact h1 C hC n w0 h0 s s' ex a w h hd Q hF he r hQ
theorem aDP {nt t:Nat} {w0:c8} (hF:∀ d,d ≠ t->w0.F d = none):∀ (sc:aH) (c:Code),sM P nt c = some sc.bare->FK t sc = true->B2 w0 c:=by
 intro sc
 induction sc with
 | region ops draw =>
  intro c hl hn
  cases c <;> simp only [sM,aH.bare] at hl
  case region id rops dr =>
   have key:aM (sN P nt rops) rops.toList = some (ops.map aS.bare):=by
    split at hl
    ·cases hl
    ·rename_i l hlow
     rw [hlow]
     split at hl
     ·split at hl
      ·cases hl; rfl
      ·cases hl
     ·cases hl; rfl
   intro o ho d hd
   obtain ⟨i,hi⟩:=î.1 ho
   obtain ⟨so,q1,q2⟩:=(bN key).2 i o hi
   rw [Ç,Â] at q1
   obtain ⟨so',q3,rfl⟩:=q1
   have hdst:so'.dst = o.dst:=by
    unfold sN at q2
    split at q2
    ·split at q2
     ·have:=Ą (fun z=>z.map aS.dst) q2; simpa [aS.bare] using this.symm
     ·split at q2
      ·have:=Ą (fun z=>z.map aS.dst) q2; simpa [aS.bare] using this.symm
      ·cases q2
    ·cases q2
   have:=Ó.1 hn so' (Î q3)
   rw [hdst,hd] at this
   exact hF d (by simpa using this)
  case seq=>split at hl <;> cases hl
  case cond=>split at hl <;> cases hl
  case block=>rw [Â] at hl; obtain ⟨_,_,e⟩:=hl; cases e
  case loop=>rw [Â] at hl; obtain ⟨_,_,e⟩:=hl; cases e
  all_goals cases hl
 | seq x y ihx ihy =>
  intro c hl hn
  simp only [FK,Ø] at hn
  cases c <;> simp only [sM,aH.bare] at hl
  case region=>split at hl <;> first | (cases hl; done) | skip; split at hl <;> first | (cases hl; done) | skip; split at hl <;> cases hl
  case seq ca cb =>
   split at hl
   ·rename_i l1 l2 h1 h2
    cases hl
    exact ⟨ihx ca h1 hn.1,ihy cb h2 hn.2⟩
   ·cases hl
  case cond=>split at hl <;> cases hl
  case block=>rw [Â] at hl; obtain ⟨_,_,e⟩:=hl; cases e
  case loop=>rw [Â] at hl; obtain ⟨_,_,e⟩:=hl; cases e
  all_goals cases hl
 | cond q x y ihx ihy =>
  intro c hl hn
  simp only [FK,Ø] at hn
  cases c <;> simp only [sM,aH.bare] at hl
  case region=>split at hl <;> first | (cases hl; done) | skip; split at hl <;> first | (cases hl; done) | skip; split at hl <;> cases hl
  case seq=>split at hl <;> cases hl
  case cond co ca cb =>
   split at hl
   ·rename_i l0 l1 l2 h1 h2 h3
    cases hl
    exact ⟨ihx ca h2 hn.1,ihy cb h3 hn.2⟩
   ·cases hl
  case block=>rw [Â] at hl; obtain ⟨_,_,e⟩:=hl; cases e
  case loop=>rw [Â] at hl; obtain ⟨_,_,e⟩:=hl; cases e
  all_goals cases hl
 | block id x ih =>
  intro c hl hn
  cases c <;> simp only [sM,aH.bare] at hl
  case region=>split at hl <;> first | (cases hl; done) | skip; split at hl <;> first | (cases hl; done) | skip; split at hl <;> cases hl
  case seq=>split at hl <;> cases hl
  case cond=>split at hl <;> cases hl
  case block id' ca=>rw [Â] at hl; obtain ⟨l1,h1,e⟩:=hl; cases e; exact ih ca h1 hn
  case loop=>rw [Â] at hl; obtain ⟨_,_,e⟩:=hl; cases e
  all_goals cases hl
 | loop x ih =>
  intro c hl hn
  cases c <;> simp only [sM,aH.bare] at hl
  case region=>split at hl <;> first | (cases hl; done) | skip; split at hl <;> first | (cases hl; done) | skip; split at hl <;> cases hl
  case seq=>split at hl <;> cases hl
  case cond=>split at hl <;> cases hl
  case block=>rw [Â] at hl; obtain ⟨_,_,e⟩:=hl; cases e
  case loop ca=>rw [Â] at hl; obtain ⟨l1,h1,e⟩:=hl; cases e; exact ih ca h1 hn
  all_goals cases hl
 | pre m x ih=>intro c hl hn; exact ih c hl hn
 | post x m ih=>intro c hl hn; exact ih c hl hn
 | _ =>
  intro c hl hn
  cases c <;> simp only [sM,aH.bare] at hl
  case region=>split at hl <;> first | (cases hl; done) | skip; split at hl <;> first | (cases hl; done) | skip; split at hl <;> cases hl
  case seq=>split at hl <;> cases hl
  case cond=>split at hl <;> cases hl
  case block=>rw [Â] at hl; obtain ⟨_,_,e⟩:=hl; cases e
  case loop=>rw [Â] at hl; obtain ⟨_,_,e⟩:=hl; cases e
  all_goals first | trivial | cases hl
section
variable {h:Hp} {hd:Nat->Value} {bl bl' : Nat->Option aL} {v:Value} {id:Nat} {cs:List V}
theorem R1.drop (ho:bl id = some (.outer cs)) (he:∀ i,i ≠ id->bl' i = bl i):∀ {x:V},R1 h hd bl v x->R1 h hd bl' v x:=by
 intro x r
 cases x with
 | ptr i off =>
  obtain ⟨⟨b,hb,hx⟩,q⟩:=r
  have:i ≠ id:=fun e=>by rw [e,ho] at hb; cases hb; cases hx
  exact ⟨⟨b,by rw [he i this]; exact hb,hx⟩,q⟩
 | own i ver =>
  obtain ⟨b,c,hb,hc,q⟩:=r
  have:i ≠ id:=fun e=>by rw [e,ho] at hb; cases hb; cases hc
  exact ⟨b,c,by rw [he i this]; exact hb,hc,q⟩
 | orow i ver j off =>
  obtain ⟨b,c,hb,hc,q⟩:=r
  have:i ≠ id:=fun e=>by rw [e,ho] at hb; cases hb; cases hc
  exact ⟨b,c,by rw [he i this]; exact hb,hc,q⟩
 | mp i =>
  obtain ⟨⟨b,hb,hx⟩,q⟩:=r
  have:i ≠ id:=fun e=>by rw [e,ho] at hb; cases hb; cases hx
  exact ⟨⟨b,by rw [he i this]; exact hb,hx⟩,q⟩
 | any=>exact r
 | d x=>exact r
 | nil=>exact r
 | agg cs=>exact r
 | tup cs=>exact r
 | fn f caps =>
  obtain ⟨arr,e,hs,hr⟩:=r
  refine ⟨arr,e,hs,fun j x hx=>?_⟩
  have hxr:=hr j x hx
  cases x with
  | ptr i off =>
   obtain ⟨⟨b,hb,hx⟩,q⟩:=hxr
   have:i ≠ id:=fun e=>by rw [e,ho] at hb; cases hb; cases hx
   exact ⟨⟨b,by rw [he i this]; exact hb,hx⟩,q⟩
  | _=>exact hxr.elim
theorem R2.drop (ho:bl id = some (.outer cs)) (he:∀ i,i ≠ id->bl' i = bl i):∀ {x:V},R2 h hd bl v x->R2 h hd bl' v x:=by
 intro x r
 cases x with
 | agg cs =>
  obtain ⟨arr,e,hs,hr⟩:=r
  exact ⟨arr,e,hs,fun j x hx=>⟨(hr j x hx).1.drop ho he,(hr j x hx).2⟩⟩
 | _=>exact R2.of1 (R1.drop ho he r)
theorem R3.drop (ho:bl id = some (.outer cs)) (he:∀ i,i ≠ id->bl' i = bl i):∀ {x:V},R3 h hd bl v x->R3 h hd bl' v x:=by
 intro x r
 cases x with
 | tup cs =>
  obtain ⟨arr,e,hs,hr⟩:=r
  exact ⟨arr,e,hs,fun j x hx=>(hr j x hx).drop ho he⟩
 | _=>exact R3.of2 (R2.drop ho he r)
theorem BR.drop {b0 b1:c8} {w:World} {i:Nat} {b:aL} (hown:∀ g,b1.own g->b0.own g) (hO:b0.O i = b1.O i) (ho:bl id = some (.outer cs)) (he:∀ i,i ≠ id->bl' i = bl i) (r:BR b1 w h hd bl i b):BR b0 w h hd bl' i b:=by
 cases b with
 | box cs =>
  obtain ⟨g,arr,e,h1,h2,h3,h4,h5,h6⟩:=r
  exact ⟨g,arr,e,h1,hown g h2,h3,h4,fun j x hx=>⟨(h5 j x hx).1.drop ho he,(h5 j x hx).2⟩,h6⟩
 | rows ver e size rows =>
  obtain ⟨h1,h2,h3,h4⟩:=r
  exact ⟨h1,h2,h3,fun g hg=>⟨(h4 g hg).1,hown g (h4 g hg).2⟩⟩
 | froz ver rows=>exact r
 | fbox cs=>exact r
 | mp ek m =>
  obtain ⟨g,h1,h2,h3⟩:=r
  exact ⟨g,h1,hown g h2,h3⟩
 | fmp ek m=>exact r
 | outer cs =>
  intro j x hx
  rw [hO]
  exact (r j x hx).drop ho he
end
theorem VM:∀ (l:List V) (i t:Nat),lk (sV i l) .any t = if i <= t then l.getD (t - i) .any else .any
 | [],i,t=>by simp [sV,lk]
 | d :: l,i,t=>by
  simp only [sV,lk,VM l (i + 1) t]
  by_cases e:t = i
  ·subst e; simp
  ·rw [Ã e]
   by_cases h:i + 1 <= t
   ·rw [Á h,Á (by omega)]
    have:t - i = (t - (i + 1)) + 1:=by omega
    rw [this,List.getD_cons_succ]
   ·rw [Ã h,Ã (by omega)]
theorem aQ5 {C:Nat->List D->Option D} (hC:vV P C) {n nt ix:Nat} {rops:Array Oper} {L:List aS} {dst:Option Nat} {f:Nat} {lop:pF} {ws:List V} {body:aH} {res:List qU} {id:Nat} {slots:List Nat} {fn:Func} {c' : Code}
  (hlow:aM (sN P nt rops) rops.toList = some L) (hLi:L[ix]? = some ⟨dst,lop,none,dst.getD 0⟩) (hfn:P.funcs[f]? = some fn) (l6:fn.body = some c') (l3:ws.length <= fn.ntmps) (l5:aM (YR P) fn.results.toList = some res)
  (hb:bC P fn.ntmps c' body) {w0:c8} {h0:Hp} {s1 s2 s3 s' : St} {ex' : Ex} {a1:Act} {w1:World} {h1:Hp} {hd1:Nat->Value} {Q:Exit->Act->World->Prop} {K:Act->World->Prop}
  (hF:∀ t,w0.F t = none) (r1:Rl nt w0 h0 s1.get s1.blk a1 w1 h1 hd1)
  (hs2:JD ws id slots s1 = some s2) (hev:aR C n body s2 = some (ex',s3)) (hout:pS dst res id slots s3 = some s') (hex:ex' = .normal ∨ ex' = .ret)
  (hop:∀ (o:Oper) (a1:Act) (w1:World) (h1:Hp) (hd1:Nat->Value),GN P o = lop->Rl nt w0 h0 s1.get s1.blk a1 w1 h1 hd1->∃ vs:Array Value,vs.size = ws.length ∧ (∀ (j:Nat) (y:V),ws[j]? = some y->R3 h1 hd1 s1.blk (vs.getD j undef) y) ∧ (execOp a1.eval o).run P w1 = .ok (.enter f vs) w1)
  (hQ:∀ a' w' h' hd',Rl nt w0 h0 s'.get s'.blk a' w' h' hd'->K a' w'):wpOp P rops Q ix K a1 w1:=by
 have hOF:aAg w0 rops:=fun _ _ d _=>hF d
 obtain ⟨o,q1,q2⟩:=cV hlow hLi
 have ho:rops[ix]? = some o:=by simpa using q1
 obtain ⟨g1,g2,g3,g4,g5⟩:=aEg r1 q2 (hOF o (by have:=ō ho; simpa using this))
 replace g2:dst = o.dst:=g2
 unfold wpOp
 rw [ho]
 simp only
 rw [Á (g4 rfl)]
 refine .inl ?_
 obtain ⟨vs,a1s,a2,hexec⟩:=hop o a1 w1 h1 hd1 g1.symm r1
 unfold Oper.wp
 rw [hexec]
 simp only [Oper.upon]
 -- inside
 have hs2' : s1.blk id = none ∧ s2 = ⟨sV 0 ws,(id,some (.outer (slots.map s1.get))) :: s1.bl⟩:=by
  unfold JD at hs2
  split at hs2
  ·rename_i q
   cases hs2
   exact ⟨by simpa using q,rfl⟩
  ·cases hs2
 obtain ⟨hnone,rfl⟩:=hs2'
 have hget:∀ i,i < vs.size->(vs ++ Array.replicate (fn.ntmps - vs.size) undef).getD i undef = vs.getD i undef:=fun i hi=>by
  simp only [Ì]
  rw [ċ hi]
 have hbl:∀ i,(⟨sV 0 ws,(id,some (.outer (slots.map s1.get))) :: s1.bl⟩ : St).blk i = if i = id then some (.outer (slots.map s1.get)) else s1.blk i:=fun i=>rfl
 have hk:Kp hd1 hd1 s1.blk (⟨sV 0 ws,(id,some (.outer (slots.map s1.get))) :: s1.bl⟩ : St).blk:=by
  intro i b hb
  have:i ≠ id:=fun e=>by rw [e,hnone] at hb; cases hb
  exact ⟨b,by rw [hbl,Ã this]; exact hb,DD.refl _ _ _⟩
 let w0' : c8:={ w0 with M:=[],F:=fun _=>none,O:=fun i j=>if i = id then a1.tmps.getD (slots.getD j 0) undef else w0.O i j }
 have r2:Rl fn.ntmps w0' h0 (⟨sV 0 ws,(id,some (.outer (slots.map s1.get))) :: s1.bl⟩ : St).get (⟨sV 0 ws,(id,some (.outer (slots.map s1.get))) :: s1.bl⟩ : St).blk { tmps:=vs ++ Array.replicate (fn.ntmps - vs.size) undef,defers:=[] } w1 h1 hd1:={
  tmps:=by simp only [ň,Array.size_replicate]; omega
  defers:=rfl
  fixed:=fun i v hF=>by cases hF
  below:=⟨r1.below.os,r1.below.tape,r1.below.output,r1.below.size,r1.below.block⟩
  hle:=r1.hle
  h0le:=r1.h0le
  hbase:=r1.hbase
  frame:=fun t=>by
   have e1:(⟨sV 0 ws,(id,some (.outer (slots.map s1.get))) :: s1.bl⟩ : St).get t = ws.getD t .any:=by
    have:=VM ws 0 t
    simpa [St.get] using this
   rw [e1]
   cases hy:ws[t]? with
   | none =>
    have:ws.getD t .any = .any:=by simp [Ý,hy]
    rw [this]
    trivial
   | some y =>
    have:ws.getD t .any = y:=by simp [Ý,hy]
    rw [this]
    have hlt:t < vs.size:=by rw [a1s]; exact (Æ.1 hy).1
    show R3 _ _ _ (Array.getD (vs ++ Array.replicate (fn.ntmps - vs.size) undef) t undef) _
    rw [hget t hlt]
    exact (a2 t y hy).keep (Hp.le.refl _) hk
  blk:=fun i b hb=>by
   rw [hbl] at hb
   split at hb
   ·rename_i e
    subst e
    cases hb
    intro j x hx
    rw [Ç,Â] at hx
    obtain ⟨t,ht,rfl⟩:=hx
    have:w0'.O i j = a1.tmps.getD t undef:=by
     show (if i = i then a1.tmps.getD (slots.getD j 0) undef else w0.O i j) = _
     rw [Á rfl,Ý,ht]
     rfl
    rw [this]
    exact (r1.frame t).keep (Hp.le.refl _) hk
   ·rename_i e
    exact (BR.base (b0:=w0') (b1:=w0) (fun g q=>q) (.inr (by funext j; exact Ã e)) (r1.blk i b hb)).keep (Hp.le.refl _) hk rfl fun _ _ _=>⟨rfl,fun q=>q⟩
  sep:=fun i j bi bj g hi hj li lj gi gj=>by
   rw [hbl] at hi hj
   split at hi
   ·cases hi; cases li
   ·split at hj
    ·cases hj; cases lj
    ·exact r1.sep i j bi bj g hi hj li lj gi gj }
 have hcalls:Calls P f vs w1 fun en w'=>∃ cv,en = .returned cv ∧ ∃ h' hd',Rl nt w0 h0 s'.get s'.blk (a1.put o.dst cv) w' h' hd':=by
  refine calls_of_wp hfn l6 ?_
  refine hb C hC n w0' h0 _ s3 ex' _ w1 h1 hd1 _ (fun _=>rfl) hev r2 fun a' w' h' hd' r'=>?_
  have back:∀ (cv:Value) (v:V) (cs:List V),s3.blk id = some (.outer cs)->R3 h' hd' s3.blk cv v->s' = ⟨WX dst v ++ slots.zip cs,(id,none) :: s3.bl⟩->Rl nt w0 h0 s'.get s'.blk (a1.put o.dst cv) w' h' hd':=by
   rintro cv v cs ho hv rfl
   have hb4:∀ i,(⟨WX dst v ++ slots.zip cs,(id,none) :: s3.bl⟩ : St).blk i = if i = id then none else s3.blk i:=fun i=>rfl
   have hne:∀ i,i ≠ id->(⟨WX dst v ++ slots.zip cs,(id,none) :: s3.bl⟩ : St).blk i = s3.blk i:=fun i e=>by rw [hb4,Ã e]
   have hO:=r'.blk id _ ho
   have hzip:∀ t,R3 h' hd' s3.blk (a1.tmps.getD t undef) (lk (slots.zip cs) .any t):=by
    intro t
    rcases E8 (slots.zip cs) .any t with e | ⟨p,hp,e1,e2⟩
    ·rw [e]; trivial
    ·obtain ⟨j,hj⟩:=î.1 hp
     rw [ģ] at hj
     have:=hO j p.2 hj.2
     have e3:w0'.O id j = a1.tmps.getD t undef:=by
      show (if id = id then a1.tmps.getD (slots.getD j 0) undef else w0.O id j) = _
      rw [Á rfl,Ý,hj.1,← e1]
      rfl
     rw [← e2,← e3]
     exact this
   exact {
    tmps:=by cases o.dst <;> simp [Act.put,r1.tmps]
    defers:=by cases o.dst <;> simp [Act.put,r1.defers]
    fixed:=fun t u hq=>by rw [hF t] at hq; cases hq
    below:=⟨r'.below.os,r'.below.tape,r'.below.output,r'.below.size,r'.below.block⟩
    hle:=r'.hle
    h0le:=r'.h0le
    hbase:=r'.hbase
    frame:=fun t=>by
     rw [P9 a1 o.dst cv t nt r1.tmps fun d e=>(g3 d e).1]
     refine R3.drop ho hne ?_
     rw [← g2]
     cases dst with
     | none=>rw [Ã (by intro q; cases q)]; exact hzip t
     | some d =>
      show R3 h' hd' s3.blk _ (lk ((d,v) :: slots.zip cs) .any t)
      simp only [lk]
      by_cases e:t = d
      ·subst e
       rw [Á rfl,Á rfl]; exact hv
      ·rw [Ã e,Ã fun q=>e (õ q).symm]; exact hzip t
    blk:=fun i b hb=>by
     rw [hb4] at hb
     split at hb
     ·cases hb
     ·rename_i e
      exact BR.drop (b0:=w0) (b1:=w0') (fun g q=>q) (by funext j; exact (Ã e).symm) ho hne (r'.blk i b hb)
    sep:=fun i j bi bj g hi hj li lj gi gj=>by
     rw [hb4] at hi hj
     split at hi
     ·cases hi
     ·split at hj
      ·cases hj
      ·exact r'.sep i j bi bj g hi hj li lj gi gj }
  have key:a'.defers = [] ∧ ∃ v,(results fn a'.tmps).run P w' = .ok v w' ∧ ∃ cv,(Ending.returned v) = .returned cv ∧ ∃ h' hd',Rl nt w0 h0 s'.get s'.blk (a1.put o.dst cv) w' h' hd':=by
   refine ⟨r'.defers,?_⟩
   unfold pS at hout
   split at hout
   ·rename_i cs v ho hres
    obtain ⟨cvs,k1,k2,k3⟩:=BB r' fn.results.toList res [v] l5 hres
    match cvs,k2 with
    | [cv],_ =>
     have hv:R3 h' hd' s3.blk cv v:=by simpa using k3 0 v rfl
     have hrun:(results fn a'.tmps).run P w' = .ok cv w':=by
      unfold results
      rw [← ù (xs:=fn.results),Ĝ]
      simp only [þ,Ń]
      erw [k1]
      simp
     exact ⟨cv,hrun,cv,rfl,h',hd',back cv v cs ho hv (õ hout).symm⟩
   ·rename_i cs vs hne ho hres
    split at hout
    ·rename_i hall
     obtain ⟨cvs,k1,k2,k3⟩:=BB r' fn.results.toList res vs l5 hres
     have hne1:cvs.length ≠ 1:=by
      intro h1
      rw [k2] at h1
      match vs,h1 with
      | [v],_=>exact hne v rfl
     have hrun:(results fn a'.tmps).run P w' = .ok (.tuple cvs.toArray) w':=by
      unfold results
      rw [← ù (xs:=fn.results),Ĝ]
      simp only [þ,Ń]
      erw [k1]
      simp [hne1]
     have hR:R3 h' hd' s3.blk (.tuple cvs.toArray) (.tup vs):=by
      refine ⟨cvs.toArray,rfl,by simpa using k2,fun j z hz=>?_⟩
      have h3:=k3 j z hz
      have e3:cvs.toArray.getD j undef = cvs.getD j undef:=by simp
      rw [e3]
      have hz':=Ó.1 hall z (Î hz)
      cases z <;> first | exact h3 | cases hz'
     exact ⟨_,hrun,_,rfl,h',hd',back _ _ cs ho hR (õ hout).symm⟩
    ·cases hout
   ·cases hout
  rcases hex with rfl | rfl
  ·exact key
  ·exact key
 refine hcalls.mono ?_
 rintro en w' ⟨cv,rfl,h',hd',r'⟩
 exact hQ _ _ h' hd' r'
theorem aOd {C:Nat->List D->Option D} (hC:vV P C) {n nt:Nat} {rops:Array Oper} {ops:List aS} {dst:Option Nat} {f:Nat} {lop:pF} {ws:List V} {body:aH} {res:List qU} {id:Nat} {slots:List Nat} {fn:Func} {c' : Code} {ext:List aS}
  (hlow:aM (sN P nt rops) rops.toList = some (ops.map aS.bare ++ ⟨dst,lop,none,dst.getD 0⟩ :: ext)) (hfn:P.funcs[f]? = some fn) (l6:fn.body = some c') (l3:ws.length <= fn.ntmps) (l5:aM (YR P) fn.results.toList = some res)
  (hb:bC P fn.ntmps c' body) {w0:c8} {h0:Hp} {s s1 s2 s3 s' : St} {ex' : Ex} {a:Act} {w:World} {h:Hp} {hd:Nat->Value} {Q:Exit->Act->World->Prop} {rest:List Nat}
  (hF:∀ t,w0.F t = none) (r:Rl nt w0 h0 s.get s.blk a w h hd)
  (hs1:lA C ops s = some s1) (hs2:JD ws id slots s1 = some s2) (hev:aR C n body s2 = some (ex',s3)) (hout:pS dst res id slots s3 = some s') (hex:ex' = .normal ∨ ex' = .ret)
  (hop:∀ (o:Oper) (a1:Act) (w1:World) (h1:Hp) (hd1:Nat->Value),GN P o = lop->Rl nt w0 h0 s1.get s1.blk a1 w1 h1 hd1->∃ vs:Array Value,vs.size = ws.length ∧ (∀ (j:Nat) (y:V),ws[j]? = some y->R3 h1 hd1 s1.blk (vs.getD j undef) y) ∧ (execOp a1.eval o).run P w1 = .ok (.enter f vs) w1)
  (hQ:∀ a' w' h' hd',Rl nt w0 h0 s'.get s'.blk a' w' h' hd'->wpOps P rops Q rest a' w'):wpOps P rops Q (List.range ops.length ++ ops.length :: rest) a w:=by
 have hOF:aAg w0 rops:=fun _ _ d _=>hF d
 obtain ⟨ps,hps⟩:=P4 hs1
 have hst:=uD ops (fun i=>ps.getD i ([],[])) (k:=0) (fun i=>by simp) (fun i _=>by simp) hps
 have e0:(List.range ops.length).map (0 + ·) = List.range ops.length:=by simp
 rw [e0] at hst
 refine UY hC hOF hlow _ (s':=s1.fn) ?_ _ s.fn a w h hd r hst
 intro a1 w1 h1 hd1 r1
 replace r1:Rl nt w0 h0 s1.get s1.blk a1 w1 h1 hd1:=r1
 rw [ś]
 exact aQ5 hC hlow (by simp) hfn l6 l3 l5 hb hF r1 hs2 hev hout hex hop hQ
theorem aDE {C:Nat->List D->Option D} (hC:vV P C) {n nt:Nat} {rops:Array Oper} {ops:List aS} {dst:Option Nat} {f:Nat} {args:List d7} {body:aH} {res:List qU} {id:Nat} {slots:List Nat} {fn:Func} {c' : Code} {ext:List aS}
  (hlow:aM (sN P nt rops) rops.toList = some (ops.map aS.bare ++ ⟨dst,.call f args,none,dst.getD 0⟩ :: ext)) (hfn:P.funcs[f]? = some fn) (l6:fn.body = some c') (l3:args.length <= fn.ntmps) (l5:aM (YR P) fn.results.toList = some res)
  (hb:bC P fn.ntmps c' body) {w0:c8} {h0:Hp} {s s' : St} {ex:Ex} {a:Act} {w:World} {h:Hp} {hd:Nat->Value} {Q:Exit->Act->World->Prop} {rest:List Nat}
  (hF:∀ t,w0.F t = none) (he:aR C n (.inl ops args dst f body res id slots) s = some (ex,s')) (r:Rl nt w0 h0 s.get s.blk a w h hd)
  (hQ:ex = .normal->∀ a' w' h' hd',Rl nt w0 h0 s'.get s'.blk a' w' h' hd'->wpOps P rops Q rest a' w'):wpOps P rops Q (List.range ops.length ++ ops.length :: rest) a w:=by
 simp only [aR] at he
 split at he
 ·cases he
 rename_i s1 hs1
 split at he
 ·cases he
 rename_i s2 hs2
 have hfin:∃ ex' s3,aR C n body s2 = some (ex',s3) ∧ pS dst res id slots s3 = some s' ∧ ex = .normal ∧ (ex' = .normal ∨ ex' = .ret):=by
  split at he
  ·rename_i s3 h3
   obtain ⟨s4,q1,q2⟩:=Â.1 he
   cases q2
   exact ⟨_,s3,h3,q1,rfl,.inl rfl⟩
  ·rename_i s3 h3
   obtain ⟨s4,q1,q2⟩:=Â.1 he
   cases q2
   exact ⟨_,s3,h3,q1,rfl,.inr rfl⟩
  ·cases he
 obtain ⟨ex',s3,hev,hout,rfl,hex⟩:=hfin
 have hs2' : JD (args.map (cZ s1.get)) id slots s1 = some s2:=hs2
 refine aOd hC hlow hfn l6 (by simpa using l3) l5 hb hF r hs1 hs2' hev hout hex ?_ (hQ rfl)
 intro o a1 w1 h1 hd1 g1 r1
 obtain ⟨c,fn',hop,hcal,hfn',hl,c1,c2⟩:=SX g1
 rw [hfn] at hfn'
 cases hfn'
 obtain ⟨m1,m2⟩:=bN hl
 refine ⟨c.args.map a1.eval,by simpa using m1,fun j y hy=>?_,?_⟩
 ·rw [Ç,Â] at hy
  obtain ⟨z,hz,rfl⟩:=hy
  obtain ⟨x,x1,x2⟩:=cV hl hz
  have x1' : c.args[j]? = some x:=by simpa using x1
  have:(c.args.map a1.eval).getD j undef = a1.eval x:=by simp [x1']
  rw [this]
  exact eE r1.frame x2
 ·obtain ⟨bd,hbd⟩:=ā.1 c2
  have c1' : (fn.name == "runtime.NumGoroutine") = false:=by simpa using c1
  simp [execOp,hop,resolve,hcal,Act.eval,Deferred.ofValue,invoke,callFunc,hfn,c1,hbd]
theorem aGb {nt rid:Nat} {rops:Array Oper} {ops:List aS} {dst:Option Nat} {f:Nat} {args:List d7} {body:aH} {res:List qU} {id:Nat} {slots:List Nat} {fn:Func} {c' : Code}
  (hlow:aM (sN P nt rops) rops.toList = some (ops.map aS.bare ++ [⟨dst,.call f args,none,dst.getD 0⟩])) (hfn:P.funcs[f]? = some fn) (l6:fn.body = some c') (l3:args.length <= fn.ntmps) (l5:aM (YR P) fn.results.toList = some res)
  (hb:bC P fn.ntmps c' body):bC P nt (.region rid rops false) (.inl ops args dst f body res id slots):=by
 intro C hC n w0 h0 s s' ex a w h hd Q hF he r hQ
 have hlen:rops.size = ops.length + 1:=by simpa using (bN hlow).1
 refine ŧ ?_
 rw [hlen,Ĉ]
 refine aDE hC hlow hfn l6 l3 l5 hb hF he r ?_
 rintro rfl a' w' h' hd' r'
 exact hQ _ _ h' hd' r'
theorem aOh {nt rid:Nat} {rops:Array Oper} {ops ops2:List aS} {dst:Option Nat} {f:Nat} {args:List d7} {body:aH} {res:List qU} {id:Nat} {slots:List Nat} {fn:Func} {c' : Code}
  (hlow:aM (sN P nt rops) rops.toList = some (ops.map aS.bare ++ ⟨dst,.call f args,none,dst.getD 0⟩ :: ops2.map aS.bare)) (hfn:P.funcs[f]? = some fn) (l6:fn.body = some c') (l3:args.length <= fn.ntmps) (l5:aM (YR P) fn.results.toList = some res)
  (hb:bC P fn.ntmps c' body):bC P nt (.region rid rops false) (.seq (.inl ops args dst f body res id slots) (.region ops2 none)):=by
 intro C hC n w0 h0 s s' ex a w h hd Q hF he r hQ
 have hlen:rops.size = ops.length + 1 + ops2.length:=by
  have:=(bN hlow).1
  simp only [ß,È,ï] at this
  have h2:rops.toList.length = rops.size:=rfl
  omega
 refine ŧ ?_
 have hL:List.range rops.size = List.range ops.length ++ ops.length :: (List.range ops2.length).map (ops.length + 1 + ·):=by
  rw [hlen,List.range_add,Ĉ,è]
  rfl
 rw [hL]
 rw [aR] at he
 have hinl:∀ e1 s1,aR C n (.inl ops args dst f body res id slots) s = some (e1,s1)->e1 = .normal:=fun e1 s1 q=>by
  simp only [aR] at q
  split at q
  ·cases q
  split at q
  ·cases q
  split at q
  ·obtain ⟨s4,q1,q2⟩:=Â.1 q; cases q2; rfl
  ·obtain ⟨s4,q1,q2⟩:=Â.1 q; cases q2; rfl
  ·cases q
 cases hi:aR C n (.inl ops args dst f body res id slots) s with
 | none=>rw [hi] at he; cases he
 | some p =>
  obtain ⟨e1,s1⟩:=p
  obtain rfl:=hinl e1 s1 hi
  rw [hi] at he
  simp only [aR] at he
  split at he
  ·rename_i s2 hs2
   cases he
   refine aDE hC hlow hfn l6 l3 l5 hb hF hi r ?_
   intro _ a' w' h' hd' r'
   obtain ⟨ps,hps⟩:=P4 (show lA C ops2 s1 = some s' from hs2)
   have hlow' : aM (sN P nt rops) rops.toList = some ((ops ++ ⟨dst,.call f args,none,dst.getD 0⟩ :: ops2).map aS.bare ++ []):=by
    rw [hlow,Û,Ă,ø]
    rfl
   have hst:=uD (ops ++ ⟨dst,.call f args,none,dst.getD 0⟩ :: ops2) (fun i=>ps.getD (i - (ops.length + 1)) ([],[])) (k:=ops.length + 1) (fun i=>by
    rw [ó (by omega),show ops.length + 1 + i - ops.length = i + 1 by omega,Ć]) (fun i _=>by rw [Ū]) hps
   have hfin:=UY hC (fun _ _ d _=>hF d:aAg w0 rops) hlow' _ (s':=s'.fn) (rest:=[]) (Q:=Q) (fun a2 w2 h2 hd2 r2=>(hQ a2 w2 h2 hd2 r2:wpOps P rops Q [] a2 w2)) _ s1.fn a' w' h' hd' r' hst
   rw [Û] at hfin
   exact hfin
  ·cases he
theorem aGk {C:Nat->List D->Option D} (hC:vV P C) (hm:P.follows .mixedOrders = true) {n f t:Nat} {fn:Func} {sf:b5} {c:Code} {ds:List D} {x:D} {ex:Ex} {s:St} (hfn:P.funcs[f]? = some fn) (l2:fn.name ≠ "runtime.NumGoroutine") (l3:fn.ntmps = sf.nt) (l4:sf.np <= sf.nt)
  (l5:aM (YR P) fn.results.toList = some sf.results) (l6:fn.body = some c) (l7:sM P sf.nt c = some sf.body.bare) (hnp:ds.length = sf.np) (hnd:FK t sf.body = true)
  (hev:aR C n sf.body (GS t ds) = some (ex,s)) (hfs:D9 sf s t = some x) (hex:ex = .normal ∨ ex = .ret):aCa P f ds t x:=by
 refine ⟨⟨fn,hfn,l2,by rw [l6]; rfl⟩,?_⟩
 intro e size rows rows' y hdt hx w h vs hle hvs hrd hlent
 refine calls_of_wp hfn l6 ?_
 generalize hvt:vs.getD t undef = vt at hlent ⊢
 have hvsz:vs.size = sf.np:=by omega
 have htd:t < ds.length:=(Æ.1 hdt).1
 have htv:t < vs.size:=by omega
 have hini:GS t ds = ⟨(t,.own 900000 0) :: tM 0 ds,[(900000,some (.rows 0 e size rows))]⟩:=by
  unfold GS
  rw [hdt]
  rfl
 obtain ⟨e1,e2,⟨xs,e3,e4⟩,e5⟩:=hlent
 have hget:∀ i,i < vs.size->(vs ++ Array.replicate (fn.ntmps - vs.size) undef).getD i undef = vs.getD i undef:=fun i hi=>by
  simp only [Ì]
  rw [ċ hi]
 have hbl:∀ id b,(GS t ds).blk id = some b->id = 900000 ∧ b = .rows 0 e size rows:=fun id b hb=>by
  rw [hini] at hb
  simp only [St.blk,lk] at hb
  split at hb
  ·rename_i q; cases hb; exact ⟨q,rfl⟩
  ·cases hb
 have hbl0:(GS t ds).blk 900000 = some (.rows 0 e size rows):=by rw [hini]; simp [St.blk,lk]
 have r0:Rl sf.nt (c8.lent w t (vt)) h (GS t ds).get (GS t ds).blk { tmps:=vs ++ Array.replicate (fn.ntmps - vs.size) undef,defers:=[] } w h (fun _=>vt):={
  tmps:=by simp; omega
  defers:=rfl
  fixed:=fun i v hF=>by
   simp only [c8.lent] at hF
   split at hF
   ·rename_i q; cases hF; subst q; exact (hget _ htv).trans hvt
   ·cases hF
  below:=GE.refl _ _
  hle:=hle
  h0le:=Hp.le.refl _
  hbase:=fun _ _=>rfl
  frame:=fun i=>by
   have q1:(GS t ds).get i = if i = t then .own 900000 0 else (match ds[i]? with | some d=>aKy d | none=>.any):=by
    rw [hini]
    simp only [St.get,lk]
    split
    ·rfl
    ·have:=SJ ds 0 i
     simpa using this
   rw [q1]
   split
   ·rename_i q
    subst q
    rw [hget _ htv,hvt]
    exact ⟨_,0,hbl0,rfl,É _,e3.one,fun _=>rfl⟩
   ·rename_i hne
    cases hd:ds[i]? with
    | none=>trivial
    | some d =>
     have hlt:i < vs.size:=by rw [hvs]; exact (Æ.1 hd).1
     simp only [hget i hlt]
     exact aGK (hrd i d hne hd)
  blk:=fun id b hb=>by
   obtain ⟨_,rfl⟩:=hbl id b hb
   exact ⟨e1,e2,⟨xs,e3,e4⟩,fun g hg=>⟨e5 g hg,.inr hg⟩⟩
  sep:=fun i j bi bj g hi hj _ _ _ _=>by rw [(hbl i bi hi).1,(hbl j bj hj).1] }
 refine aBI hC hm n sf.body c _ s ex _ w h _ _ (aDP (fun d hd=>by simp [c8.lent,hd]) sf.body c l7 hnd) l7 hev r0 fun a' w' h' hd' r'=>?_
 have key:a'.defers = [] ∧ ∃ v,(results fn a'.tmps).run P w' = .ok v w' ∧ ∃ v' h'',(Ending.returned v) = .returned v' ∧ aW h'' v' y ∧ aC6 w' h'' (vt) e size rows' ∧ h.le h'' ∧ h''.le (hw w') ∧ GE (c8.lent w t (vt)) w w':=by
  refine ⟨r'.defers,?_⟩
  unfold D9 at hfs
  split at hfs
  ·rename_i id ver hst
   split at hfs
   ·rename_i vv e' size' rows'' hb
    split at hfs
    ·rename_i hv
     subst hv
     have hslot:hd' id = vt:=by
      have h3:=r'.frame t
      rw [hst] at h3
      obtain ⟨b,cc,g1,g2,g3,g4,g5⟩ : ∃ b c',s.blk id = some b ∧ b.ver? = some c' ∧ ver <= c' ∧ _ ∧ (ver = c'->_ = hd' id):=h3
      rw [hb] at g1
      cases g1
      simp only [aL.ver?,Å] at g2
      rw [← g5 g2]
      exact r'.fixed t _ (by simp [c8.lent])
     have hLR:aC6 w' h' (vt) e' size' rows'':=by
      obtain ⟨k1,k2,k3,k4⟩:=r'.blk id _ hb
      rw [hslot] at k3 k4
      exact ⟨k1,k2,k3,fun g hg=>(k4 g hg).1⟩
     split at hfs
     ·cases hfs
     ·rename_i u hres
      split at hfs
      ·rename_i y' hy
       split at hfs
       ·rename_i hfl
        rw [hx] at hfs
        simp only [Å,D.own.injEq,List.cons.injEq,Ĕ,and_true] at hfs
        obtain ⟨rfl,⟨rfl,rfl⟩,rfl⟩:=hfs
        obtain ⟨cvs,g1,g2,g3⟩:=BB r' fn.results.toList sf.results [u] l5 hres
        match cvs,g2 with
        | [cv],_ =>
         have hv:R3 h' hd' s.blk cv u:=by simpa using g3 0 u rfl
         have hrun:(results fn a'.tmps).run P w' = .ok cv w':=by
          unfold results
          rw [← ù (xs:=fn.results),Ĝ]
          simp only [þ,Ń]
          erw [g1]
          simp
         have hrd:aW (NO w' h' hd' (CI s.blk u)) cv y':=uN r' _ (by cases u <;> first | exact hv | cases hy) hy (fun p hp=>hp)
         exact ⟨cv,hrun,cv,h',rfl,F2 hrd hfl h',hLR,r'.h0le,r'.hle,r'.below⟩
       ·cases hfs
      ·cases hfs
     ·rename_i us hne hres
      split at hfs
      ·rename_i y' hy
       split at hfs
       ·rename_i hfl
        rw [hx] at hfs
        simp only [Å,D.own.injEq,List.cons.injEq,Ĕ,and_true] at hfs
        obtain ⟨rfl,⟨rfl,rfl⟩,rfl⟩:=hfs
        obtain ⟨cvs,g1,g2,g3⟩:=BB r' fn.results.toList sf.results us l5 hres
        have hne1:cvs.length ≠ 1:=by
         intro h1
         rw [g2] at h1
         match us,h1 with
         | [v],_=>exact hne v rfl
        have hrun:(results fn a'.tmps).run P w' = .ok (.tuple cvs.toArray) w':=by
         unfold results
         rw [← ù (xs:=fn.results),Ĝ]
         simp only [þ,Ń]
         erw [g1]
         simp [hne1]
        have hR:R3 h' hd' s.blk (.tuple cvs.toArray) (.tup us):=by
         simp only [toD] at hy
         cases hm2:aM (lG s.blk) us with
         | none=>simp [hm2] at hy
         | some ys =>
          refine ⟨cvs.toArray,rfl,by simpa using g2,fun j z hz=>?_⟩
          have h3:=g3 j z hz
          have e3:cvs.toArray.getD j undef = cvs.getD j undef:=by simp
          rw [e3]
          obtain ⟨y,y1,y2⟩:=(bN hm2).2 j z hz
          cases z <;> first | exact h3 | cases y2
        have hrd:=aJH r' (us.flatMap (CI s.blk)) hR hy (fun p hp=>hp)
        exact ⟨_,hrun,_,h',rfl,F2 hrd hfl h',hLR,r'.h0le,r'.hle,r'.below⟩
       ·cases hfs
      ·cases hfs
    ·cases hfs
   ·cases hfs
  ·cases hfs
 rcases hex with rfl | rfl
 ·exact key
 ·exact key
def aFP (P:Program) (f:Nat):Def->Prop
 | .code _=>True
 | .told o=>∀ ds x,o ds = some x->HV P f ds x
 | .toldL o=>∀ ds x t,o ds = some x->mO 0 ds = some t->aCa P f ds t x
theorem XE (T:CJ) (hT:∀ f sf,T f = some (.code sf)->∃ fn,P.funcs[f]? = some fn ∧ T4 P fn sf) (hO:∀ f d,T f = some d->aFP P f d) (hm:P.follows .mixedOrders = true):∀ (n f:Nat) (ds:List D) (x:D),lD T n f ds = some x->(mO 0 ds = none->HV P f ds x) ∧ ∀ t,mO 0 ds = some t->aCa P f ds t x
 | 0,f,ds,x,e=>by cases e
 | n + 1,f,ds,x,e=>by
  simp only [lD] at e
  split at e
  ·cases e
  ·rename_i o ho
   split at e
   ·rename_i hl
    exact ⟨fun _=>hO f (.told o) ho ds x e,fun t ht=>(by rw [hl] at ht; cases ht)⟩
   ·cases e
  ·rename_i o ho
   split at e
   ·rename_i hl
    exact ⟨fun q=>(by rw [q] at hl; cases hl),fun t ht=>hO f (.toldL o) ho ds x t e ht⟩
   ·cases e
  ·rename_i sf hsf
   split at e
   ·rename_i hnp
    obtain ⟨fn,hfn,l1,l2,l3,l4,l5,c,l6,l7,l8⟩:=hT f sf hsf
    cases hla:mO 0 ds with
    | some t =>
     rw [hla] at e
     simp only at e
     refine ⟨fun q=>(by cases q),fun t' ht=>?_⟩
     cases ht
     split at e
     ·rename_i hq
      split at e
      ·rename_i s hs; exact aGk (XE T hT hO hm n) hm hfn l2 l3 l4 l5 l6 (l8 hq.1) hnp hq.2 hs e (.inl rfl)
      ·rename_i s hs; exact aGk (XE T hT hO hm n) hm hfn l2 l3 l4 l5 l6 (l8 hq.1) hnp hq.2 hs e (.inr rfl)
      ·cases e
     ·cases e
    | none =>
    rw [hla] at e
    simp only at e
    refine ⟨fun _=>?_,fun t ht=>(by cases ht)⟩
    have hfin:∃ ex s,aR (lD T n) n sf.body ⟨tM 0 ds,[]⟩ = some (ex,s) ∧ OV sf s = some x ∧ (ex = .normal ∨ ex = .ret):=by
     split at e
     ·rename_i s hs; exact ⟨_,s,hs,e,.inl rfl⟩
     ·rename_i s hs; exact ⟨_,s,hs,e,.inr rfl⟩
     ·cases e
    obtain ⟨ex,s,hev,hfs,hex⟩:=hfin
    refine ⟨⟨fn,hfn,l2,by rw [l6]; rfl⟩,?_⟩
    intro w h vs hle hvs hrd
    refine (callsIn_wide (n:=0)).1 (callsIn_of_wp_marks hfn l6 trivial ?_)
    refine wpIn_wide.2 ?_
    have hvsz:vs.size = sf.np:=by omega
    have r0:Rl sf.nt (c8.of w) h (⟨tM 0 ds,[]⟩ : St).get (⟨tM 0 ds,[]⟩ : St).blk { tmps:=vs ++ Array.replicate (fn.ntmps - vs.size) undef,defers:=[] } w h (fun _=>undef):={
     tmps:=by simp; omega
     defers:=rfl
     fixed:=fun i v hF=>by cases hF
     below:=GE.refl _ _
     hle:=hle
     h0le:=Hp.le.refl _
     hbase:=fun _ _=>rfl
     frame:=fun t=>by
      have e1:(⟨tM 0 ds,[]⟩ : St).get t = (match ds[t]? with | some d=>aKy d | none=>.any):=by
       have:=SJ ds 0 t
       simpa [St.get] using this
      rw [e1]
      cases hd:ds[t]? with
      | none=>trivial
      | some d =>
       have hlt:t < vs.size:=by rw [hvs]; exact (Æ.1 hd).1
       have e2:(vs ++ Array.replicate (fn.ntmps - vs.size) undef).getD t undef = vs.getD t undef:=by
        simp only [Ì]
        rw [ċ hlt]
       simp only [e2]
       exact aGK (hrd t d hd)
     blk:=fun id b hb=>by simp [St.blk,lk] at hb
     sep:=fun i j bi bj g hi=>by simp [St.blk,lk] at hi }
    refine l7 hm _ (XE T hT hO hm n) n _ _ _ s ex _ w h _ _ (fun _=>rfl) hev r0 fun b hb Ds a' w1' h' hd' u m r1'=>?_
    have hD:∀ D ∈ Ds,(c8.of w).own D ∧ ¬ b.own D ∧ h' D = none:=fun D hD=>⟨(m.here D hD).1,(m.here D hD).2.1,(r1'.hbase D (m.here D hD).2.1).trans (m.here D hD).2.2.2⟩
    obtain ⟨b',u',r'⟩:=Rl.shut Ds w1' b hb u hD r1'
    have hbe:=r'.un u'
    generalize hsh:shut Ds w1' = w' at r' hbe
    have hbase:∀ b,b < w.heap.size->h' b = h b:=fun b hb=>hbe.2.2 b fun q=>by have:=c8.own_of q; omega
    have hnot:∀ b,b < w.heap.size->¬ (c8.of w).own b:=fun b hb q=>by have:=c8.own_of q; omega
    have hbelow:=hbe.1.below
    have hle0:h.le h':=hbe.2.1
    have key:∃ v,(results fn a'.tmps).run P w' = .ok v w' ∧ ∃ v' h'',(Ending.returned v) = .returned v' ∧ DZ (c8.of w) w' h'' v' x ∧ h.le h'' ∧ h''.le (hw w') ∧ (∀ b,b < w.heap.size->h'' b = h b) ∧ Below w.heap.size w w':=by
     unfold OV at hfs
     split at hfs
     ·cases hfs
     ·rename_i v hres
      obtain ⟨cvs,g1,g2,g3⟩:=BB r' fn.results.toList sf.results [v] l5 hres
      match cvs,g2 with
      | [cv],_ =>
       have hv:R3 h' hd' s.blk cv v:=by simpa using g3 0 v rfl
       have hrun:(results fn a'.tmps).run P w' = .ok cv w':=by
        unfold results
        rw [← ù (xs:=fn.results),Ĝ]
        simp only [þ,Ń]
        erw [g1]
        simp
       split at hfs
       ·exact ⟨cv,hrun,cv,h',rfl,DZ.within u'.own (aDb r' hv hfs),hle0,r'.hle,hbase,hbelow⟩
       have hrd:aW (NO w' h' hd' (CI s.blk v)) cv x:=uN r' _ (by cases v <;> first | exact hv | cases hfs) hfs (fun p hp=>hp)
       exact ⟨cv,hrun,cv,NO w' h' hd' (CI s.blk v),rfl,hrd.toF,hle0.trans (D2 r' _),RQ r' _,fun b hb=>(ZS r' _ (aFJ v) b fun q=>hnot b hb (u'.own b q)).trans (hbase b hb),hbelow⟩
     ·rename_i vs' hne hres
      obtain ⟨cvs,g1,g2,g3⟩:=BB r' fn.results.toList sf.results vs' l5 hres
      have hne1:cvs.length ≠ 1:=by
       intro h1
       rw [g2] at h1
       match vs',h1 with
       | [v],_=>exact hne v rfl
      have hrun:(results fn a'.tmps).run P w' = .ok (.tuple cvs.toArray) w':=by
       unfold results
       rw [← ù (xs:=fn.results),Ĝ]
       simp only [þ,Ń]
       erw [g1]
       simp [hne1]
      split at hfs
      ·rename_i hfr
       have hR:R3 h' hd' s.blk (.tuple cvs.toArray) (.tup vs'):=by
        refine ⟨cvs.toArray,rfl,by simpa using g2,fun j z hz=>?_⟩
        have h3:=g3 j z hz
        have e3:cvs.toArray.getD j undef = cvs.getD j undef:=by simp
        rw [e3]
        obtain ⟨y,hy⟩:=aEI hfs hz
        cases z <;> first | exact h3 | cases hy
       exact ⟨_,hrun,_,h',rfl,DZ.within u'.own (aDb r' hR hfs),hle0,r'.hle,hbase,hbelow⟩
      have hR:R3 h' hd' s.blk (.tuple cvs.toArray) (.tup vs'):=by
       simp only [toD] at hfs
       cases hm2:aM (lG s.blk) vs' with
       | none=>simp [hm2] at hfs
       | some ys =>
        refine ⟨cvs.toArray,rfl,by simpa using g2,fun j z hz=>?_⟩
        have h3:=g3 j z hz
        have e3:cvs.toArray.getD j undef = cvs.getD j undef:=by simp
        rw [e3]
        obtain ⟨y,y1,y2⟩:=(bN hm2).2 j z hz
        cases z <;> first | exact h3 | cases y2
      refine ⟨_,hrun,_,NO w' h' hd' (vs'.flatMap (CI s.blk)),rfl,(aJH r' _ hR hfs (fun p hp=>hp)).toF,hle0.trans (D2 r' _),RQ r' _,fun b hb=>(ZS r' _ ?_ b fun q=>hnot b hb (u'.own b q)).trans (hbase b hb),hbelow⟩
      exact BS.flatMap vs' fun z=>z
    have post:LeavesInM Fence.wide 0 P fn a'.tmps (fun en w'=>∃ v' h'',en = .returned v' ∧ DZ (c8.of w) w' h'' v' x ∧ h.le h'' ∧ h''.le (hw w') ∧ (∀ b,b < w.heap.size->h'' b = h b) ∧ Below w.heap.size w w') a'.defers .returning w1':=by
     rw [show a'.defers = Ds.map aBV from by rw [r1'.defers,m.M]; exact Û _]
     refine WD Ds w1' m.nodup (fun D q=>(r1'.below.block D (m.here D q).2.1).trans (m.here D q).2.2.1) ?_
     rw [hsh]
     exact key
    rcases hex with rfl | rfl
    ·exact post
    ·exact post
   ·cases e
end
end Vm
end
section
namespace Vm
open Go.RowKit
section
variable {P:Program} {nt:Nat} {w0:c8} {h0:Hp}
theorem DJ.wide {C:Nat->List D->Option D} {l L:List aS} {fp fq:Nat->Fp}:∀ {M:List Nat} {s s' : Fn},(∀ i ∈ M,l[i]? = L[i]? ∧ fp i = fq i)->DJ C l fp M s s'->DJ C L fq M s s'
 | [],s,s',_,h=>h
 | i :: M,s,s',hi,⟨o,s1,g1,g2,g3⟩=>by
  obtain ⟨e1,e2⟩:=hi i (by simp)
  exact ⟨o,s1,e1 ▸ g1,e2 ▸ g2,DJ.wide (fun k hk=>hi k (by simp [hk])) g3⟩
end
end Vm
end
section
namespace Vm
open Go.RowKit
noncomputable def lim {α:Type} (g:Nat->Option α):Option α:=@dite _ (∃ n x,g n = some x) (Classical.propDecidable _) (fun h=>some h.choose_spec.choose) (fun _=>none)
def aUO {α:Type} (g:Nat->Option α):Prop:=∀ n m x,n <= m->g n = some x->g m = some x
theorem aBw {α:Type} {g:Nat->Option α} (hg:aUO g) {x:α}:lim g = some x ↔ ∃ n,g n = some x:=by
 unfold lim
 split
 ·rename_i h
  have hs:=h.choose_spec.choose_spec
  constructor
  ·intro e; cases e; exact ⟨_,hs⟩
  ·rintro ⟨n,hn⟩
   have h1:=hg _ (max h.choose n) _ (Ķ _ _) hs
   have h2:=hg _ (max h.choose n) _ (Ě _ _) hn
   rw [h1] at h2
   exact h2
 ·rename_i h
  constructor
  ·intro e; cases e
  ·rintro ⟨n,hn⟩; exact absurd ⟨n,x,hn⟩ h
theorem xQ {α:Type} {a b:Option α} (h:∀ x,a = some x ↔ b = some x):a = b:=by
 cases a with
 | none=>cases b with
  | none=>rfl
  | some y=>have:=(h y).2 rfl; cases this
 | some x=>exact ((h x).1 rfl).symm
def CLe (C D:Nat->List Vm.D->Option Vm.D):Prop:=∀ f ds x,C f ds = some x->D f ds = some x
section
variable {C C' : Nat->List D->Option D}
theorem aKu (hc:CLe C C') {site:Nat} {ev:d7->V} {bl:Nat->Option aL} {so:pF} {r:V × List (Nat × Option aL)} (e:iB C site ev bl so = some r):iB C' site ev bl so = some r:=by
 cases so with
 | call f args =>
  simp only [iB] at e ⊢
  split at e
  ·cases e
  ·split at e
   ·cases e
   ·rename_i x hx
    rw [hc _ _ _ hx]
    exact e
 | callv g args =>
  simp only [iB] at e ⊢
  split at e
  ·split at e
   ·cases e
   ·split at e
    ·cases e
    ·rename_i x hx
     rw [hc _ _ _ hx]
     exact e
  ·cases e
 | calln f args =>
  simp only [iB] at e ⊢
  split at e
  ·cases e
  ·split at e
   ·rename_i hx
    rw [hc _ _ _ hx]
    exact e
   ·cases e
 | lend f args t =>
  simp only [iB] at e ⊢
  split at e
  ·split at e
   ·cases e
   ·split at e
    ·rename_i hn
     rw [Á hn]
     split at e
     ·rename_i hx
      rw [hc _ _ _ hx]
      exact e
     ·cases e
    ·cases e
  ·cases e
 | _=>exact e
theorem WA (hc:CLe C C') {o:aS} {s:St} {r:St × Fp} (e:mN C o s = some r):mN C' o s = some r:=by
 unfold mN at e ⊢
 split at e
 ·split at e
  ·rename_i v wr ha
   rw [aKu hc ha]; exact e
  ·cases e
 ·exact e
 ·cases e
theorem FN (hc:CLe C C'):∀ {l:List aS} {s:St} {r:St × List Fp},lN C l s = some r->lN C' l s = some r
 | [],s,r,e=>e
 | o :: l,s,r,e=>by
  simp only [lN] at e ⊢
  split at e
  ·rename_i s' p h1
   rw [WA hc h1]
   split at e
   ·rename_i s'' ps h2
    simp only [FN hc h2]
    exact e
   ·cases e
  ·cases e
theorem aHF (o:aS) (s:St):EW C o s = (mN C o s).map (·.1):=by
 unfold EW mN
 cases o.wants s.get with
 | run =>
  simp only
  cases iB C o.site (cZ s.get) s.blk o.op with
  | none=>rfl
  | some r=>rfl
 | skip=>rfl
 | bad=>rfl
theorem ST:∀ (l:List aS) (s:St),lA C l s = (lN C l s).map (·.1)
 | [],s=>rfl
 | o :: l,s=>by
  simp only [lA,lN,aHF]
  cases mN C o s with
  | none=>rfl
  | some r =>
   obtain ⟨s',p⟩:=r
   simp only [ä,ST l s']
   cases lN C l s' with
   | none=>rfl
   | some q=>rfl
theorem n6 (hc:CLe C C') {l:List aS} {d:Option (List (Nat × Nat))} {s s' : St} (e:iX C l d s = some s'):iX C' l d s = some s':=by
 cases d with
 | none =>
  simp only [iX,ST,Â] at e ⊢
  obtain ⟨r,h1,h2⟩:=e
  exact ⟨r,FN hc h1,h2⟩
 | some ps =>
  simp only [iX] at e ⊢
  split at e
  ·rename_i h1
   rw [FN hc h1]; exact e
  ·cases e
theorem L0 {f g:St->Option (Ex × St)} (h:∀ s r,f s = some r->g s = some r):∀ {n m:Nat} {s:St} {r:Ex × St},n <= m->w7 f n s = some r->w7 g m s = some r
 | 0,m,s,r,_,e=>by cases e
 | n + 1,0,s,r,hle,e=>by omega
 | n + 1,m + 1,s,r,hle,e=>by
  simp only [w7] at e ⊢
  cases hf:f s with
  | none=>rw [hf] at e; cases e
  | some q =>
   obtain ⟨ex,s'⟩:=q
   rw [hf] at e
   rw [h s _ hf]
   cases ex with
   | normal=>exact L0 h (by omega) e
   | exit id=>exact e
   | ret=>exact e
theorem qO (hc:CLe C C') {n m:Nat} (hnm:n <= m):∀ (c:aH) (s:St) (r:Ex × St),aR C n c s = some r->aR C' m c s = some r:=by
 intro c
 induction c with
 | skip=>exact fun s r e=>e
 | region ops d =>
  intro s r e
  simp only [aR] at e ⊢
  split at e
  ·rename_i h1; rw [n6 hc h1]; exact e
  ·cases e
 | seq a b iha ihb =>
  intro s r e
  simp only [aR] at e ⊢
  cases ha:aR C n a s with
  | none=>rw [ha] at e; cases e
  | some q =>
   obtain ⟨ex,s'⟩:=q
   rw [ha] at e
   rw [iha s _ ha]
   cases ex with
   | normal=>exact ihb _ _ e
   | exit id=>exact e
   | ret=>exact e
 | cond c a b iha ihb =>
  intro s r e
  simp only [aR] at e ⊢
  split at e
  ·exact iha _ _ e
  ·exact ihb _ _ e
  ·cases e
 | block id a iha =>
  intro s r e
  simp only [aR] at e ⊢
  cases ha:aR C n a s with
  | none=>rw [ha] at e; cases e
  | some q=>rw [ha] at e; rw [iha s _ ha]; exact e
 | loop a iha =>
  intro s r e
  simp only [aR] at e ⊢
  exact L0 iha hnm e
 | exit id=>exact fun s r e=>e
 | ret=>exact fun s r e=>e
 | hand g=>exact fun s r e=>e
 | inl ops args dst f body res id slots ih =>
  intro s r e
  simp only [aR] at e ⊢
  split at e
  ·cases e
  ·rename_i s1 h1
   have h1' : lA C' ops s = some s1:=n6 (d:=none) hc h1
   rw [h1']
   simp only
   split at e
   ·cases e
   ·rename_i s2 h2
    cases hb:aR C n body s2 with
    | none=>rw [hb] at e; cases e
    | some q=>rw [hb] at e; simp only [ih s2 _ hb]; exact e
 | inlv ops x nc args dst f body res id slots ih =>
  intro s r e
  simp only [aR] at e ⊢
  split at e
  ·cases e
  ·rename_i s1 h1
   have h1' : lA C' ops s = some s1:=n6 (d:=none) hc h1
   rw [h1']
   simp only
   split at e
   ·cases e
   ·rename_i caps hcaps
    split at e
    ·cases e
    ·rename_i s2 h2
     cases hb:aR C n body s2 with
     | none=>rw [hb] at e; cases e
     | some q=>rw [hb] at e; simp only [ih s2 _ hb]; exact e
 | pre m' a iha=>exact fun s r e=>iha _ _ e
 | post a m' iha =>
  intro s r e
  simp only [aR] at e ⊢
  cases ha:aR C n a s with
  | none=>rw [ha] at e; cases e
  | some q=>rw [ha] at e; rw [iha s _ ha]; exact e
end
theorem SI (T:CJ):∀ (n f:Nat) (ds:List D) (x:D),lD T n f ds = some x->lD T (n + 1) f ds = some x
 | 0,f,ds,x,e=>by cases e
 | n + 1,f,ds,x,e=>by
  rw [lD] at e ⊢
  cases hT:T f with
  | none=>rw [hT] at e; cases e
  | some d =>
   rw [hT] at e
   cases d with
   | told o=>exact e
   | toldL o=>exact e
   | code sf =>
   simp only at e ⊢
   split at e
   ·rename_i hl
    rw [Á hl]
    cases hla:mO 0 ds with
    | none =>
     rw [hla] at e
     simp only at e ⊢
     cases he:aR (lD T n) n sf.body ⟨tM 0 ds,[]⟩ with
     | none=>rw [he] at e; cases e
     | some q =>
      rw [he] at e
      rw [qO (SI T n) (ń n) _ _ _ he]
      exact e
    | some t =>
     rw [hla] at e
     simp only at e ⊢
     split at e
     ·rename_i hq
      rw [Á hq]
      cases he:aR (lD T n) n sf.body (GS t ds) with
      | none=>rw [he] at e; cases e
      | some q =>
       rw [he] at e
       rw [qO (SI T n) (ń n) _ _ _ he]
       exact e
     ·cases e
   ·cases e
theorem mC (T:CJ) {n m:Nat} (h:n <= m):CLe (lD T n) (lD T m):=by
 induction h with
 | refl=>exact fun _ _ _ e=>e
 | step _ ih=>exact fun f ds x e=>SI T _ f ds x (ih f ds x e)
noncomputable def call (T:CJ) (f:Nat) (ds:List D):Option D:=lim fun n=>lD T n f ds
noncomputable def ev (T:CJ) (c:aH) (s:St):Option (Ex × St):=lim fun n=>aR (lD T n) n c s
theorem AR {T:CJ} {f:Nat} {ds:List D} {x:D}:call T f ds = some x ↔ ∃ n,lD T n f ds = some x:=aBw fun _ _ _ h e=>mC T h _ _ _ e
theorem jC {T:CJ} {c:aH} {s:St} {r:Ex × St}:ev T c s = some r ↔ ∃ n,aR (lD T n) n c s = some r:=aBw fun _ _ _ h e=>qO (mC T h) h _ _ _ e
theorem aFX {P:Program} {T:CJ} (hT:∀ f sf,T f = some (.code sf)->∃ fn,P.funcs[f]? = some fn ∧ T4 P fn sf) (hO:∀ f d,T f = some d->aFP P f d) (hm:P.follows .mixedOrders = true) {f:Nat} {ds:List D} {x:D} (e:call T f ds = some x) (hl:mO 0 ds = none):HV P f ds x:=by
 obtain ⟨n,hn⟩:=AR.1 e
 exact (XE T hT hO hm n f ds x hn).1 hl
section
variable {T:CJ}
theorem YY (n:Nat):CLe (lD T n) (call T):=fun f ds x e=>AR.2 ⟨n,e⟩
theorem aNf {site:Nat} {evv:d7->V} {bl:Nat->Option aL} {so:pF} {r:V × List (Nat × Option aL)} (e:iB (call T) site evv bl so = some r):∃ n,iB (lD T n) site evv bl so = some r:=by
 cases so with
 | call f args =>
  simp only [iB] at e ⊢
  split at e
  ·cases e
  ·rename_i ds hds
   split at e
   ·cases e
   ·rename_i x hx
    obtain ⟨n,hn⟩:=AR.1 hx
    exact ⟨n,by rw [hn]; exact e⟩
 | callv g args =>
  simp only [iB] at e ⊢
  split at e
  ·split at e
   ·cases e
   ·split at e
    ·cases e
    ·rename_i x hx
     obtain ⟨n,hn⟩:=AR.1 hx
     exact ⟨n,by rw [hn]; exact e⟩
  ·cases e
 | calln f args =>
  simp only [iB] at e ⊢
  split at e
  ·cases e
  ·rename_i ds hds
   split at e
   ·rename_i hx
    obtain ⟨n,hn⟩:=AR.1 hx
    exact ⟨n,by rw [hn]; exact e⟩
   ·cases e
 | lend f args t =>
  simp only [iB] at e ⊢
  split at e
  ·split at e
   ·cases e
   ·split at e
    ·rename_i hq
     simp only [Á hq]
     split at e
     ·rename_i hx
      obtain ⟨n,hn⟩:=AR.1 hx
      exact ⟨n,by rw [hn]; exact e⟩
     ·cases e
    ·cases e
  ·cases e
 | _=>exact ⟨0,e⟩
theorem aFt {o:aS} {s:St} {r:St × Fp} (e:mN (call T) o s = some r):∃ n,mN (lD T n) o s = some r:=by
 unfold mN at e ⊢
 split at e
 ·split at e
  ·rename_i v wr ha
   obtain ⟨n,hn⟩:=aNf ha
   exact ⟨n,by rw [hn]; exact e⟩
  ·cases e
 ·exact ⟨0,e⟩
 ·cases e
theorem O5:∀ {l:List aS} {s:St} {r:St × List Fp},lN (call T) l s = some r->∃ n,lN (lD T n) l s = some r
 | [],s,r,e=>⟨0,e⟩
 | o :: l,s,r,e=>by
  simp only [lN] at e ⊢
  split at e
  ·rename_i s' p h1
   split at e
   ·rename_i s'' ps h2
    obtain ⟨n1,g1⟩:=aFt h1
    obtain ⟨n2,g2⟩:=O5 h2
    refine ⟨max n1 n2,?_⟩
    rw [WA (mC T (Ķ n1 n2)) g1]
    simp only [FN (mC T (Ě n1 n2)) g2]
    exact e
   ·cases e
  ·cases e
theorem D8 {l:List aS} {d:Option (List (Nat × Nat))} {s s' : St}:iX (call T) l d s = some s' ↔ ∃ n,iX (lD T n) l d s = some s':=by
 constructor
 ·intro e
  cases d with
  | none =>
   simp only [iX,ST,Â] at e ⊢
   obtain ⟨r,h1,h2⟩:=e
   obtain ⟨n,hn⟩:=O5 h1
   exact ⟨n,r,hn,h2⟩
  | some ps =>
   simp only [iX] at e ⊢
   split at e
   ·rename_i h1
    obtain ⟨n,hn⟩:=O5 h1
    exact ⟨n,by rw [hn]; exact e⟩
   ·cases e
 ·rintro ⟨n,hn⟩; exact n6 (YY n) hn
theorem aNd (s:St):ev T .skip s = some (.normal,s):=jC.2 ⟨0,rfl⟩
theorem aPw (id:Nat) (s:St):ev T (.exit id) s = some (.exit id,s):=jC.2 ⟨0,rfl⟩
theorem TC (g:St->Option St) (s:St):ev T (.hand g) s = (g s).map fun s'=>(.normal,s'):=by
 refine xQ fun x=>?_
 rw [jC]
 have e:∀ n,aR (lD T n) n (.hand g) s = (g s).map fun s'=>(.normal,s'):=fun n=>by simp only [aR]; cases g s <;> rfl
 simp only [e]
 exact ⟨fun ⟨_,h⟩=>h,fun h=>⟨0,h⟩⟩
theorem aRF (ops:List aS) (args:List d7) (dst:Option Nat) (f:Nat) (body:aH) (res:List qU) (id:Nat) (slots:List Nat) (s:St):ev T (.inl ops args dst f body res id slots) s = (match lA (call T) ops s with
  | none=>none
  | some s1=>match aAY args id slots s1 with
   | none=>none
   | some s2=>match ev T body s2 with
    | some (.normal,s3)=>(pS dst res id slots s3).map fun s4=>(.normal,s4)
    | some (.ret,s3)=>(pS dst res id slots s3).map fun s4=>(.normal,s4)
    | _=>none):=by
 refine xQ fun r=>?_
 rw [jC]
 constructor
 ·rintro ⟨n,hn⟩
  simp only [aR] at hn
  split at hn
  ·cases hn
  ·rename_i s1 h1
   have h1' : lA (call T) ops s = some s1:=n6 (d:=none) (YY n) h1
   rw [h1']
   simp only
   split at hn
   ·cases hn
   ·rename_i s2 h2
    cases hb:aR (lD T n) n body s2 with
    | none=>rw [hb] at hn; cases hn
    | some q=>rw [hb] at hn; simp only [h2,jC.2 ⟨n,hb⟩]; exact hn
 ·intro e
  split at e
  ·cases e
  ·rename_i s1 h1
   obtain ⟨n1,g1⟩:=(D8 (l:=ops) (d:=none)).1 h1
   split at e
   ·cases e
   ·rename_i s2 h2
    cases hb:ev T body s2 with
    | none=>rw [hb] at e; cases e
    | some q =>
     rw [hb] at e
     obtain ⟨n2,g2⟩:=jC.1 hb
     refine ⟨max n1 n2,?_⟩
     have g1' : lA (lD T (max n1 n2)) ops s = some s1:=n6 (d:=none) (mC T (Ķ n1 n2)) g1
     have g2':=qO (mC T (Ě n1 n2)) (Ě n1 n2) _ _ _ g2
     simp only [aR,g1',h2,g2']
     exact e
theorem aPt (ops:List aS) (x:d7) (nc:Nat) (args:List d7) (dst:Option Nat) (f:Nat) (body:aH) (res:List qU) (id:Nat) (slots:List Nat) (s:St):ev T (.inlv ops x nc args dst f body res id slots) s = (match lA (call T) ops s with
  | none=>none
  | some s1=>match L8 f nc (cZ s1.get x) with
   | none=>none
   | some caps=>match JD (args.map (cZ s1.get) ++ caps) id slots s1 with
    | none=>none
    | some s2=>match ev T body s2 with
     | some (.normal,s3)=>(pS dst res id slots s3).map fun s4=>(.normal,s4)
     | some (.ret,s3)=>(pS dst res id slots s3).map fun s4=>(.normal,s4)
     | _=>none):=by
 refine xQ fun r=>?_
 rw [jC]
 constructor
 ·rintro ⟨n,hn⟩
  simp only [aR] at hn
  split at hn
  ·cases hn
  ·rename_i s1 h1
   have h1' : lA (call T) ops s = some s1:=n6 (d:=none) (YY n) h1
   rw [h1']
   simp only
   split at hn
   ·cases hn
   ·rename_i caps hcaps
    split at hn
    ·cases hn
    ·rename_i s2 h2
     cases hb:aR (lD T n) n body s2 with
     | none=>rw [hb] at hn; cases hn
     | some q=>rw [hb] at hn; simp only [hcaps,h2,jC.2 ⟨n,hb⟩]; exact hn
 ·intro e
  split at e
  ·cases e
  ·rename_i s1 h1
   obtain ⟨n1,g1⟩:=(D8 (l:=ops) (d:=none)).1 h1
   split at e
   ·cases e
   ·rename_i caps hcaps
    split at e
    ·cases e
    ·rename_i s2 h2
     cases hb:ev T body s2 with
     | none=>rw [hb] at e; cases e
     | some q =>
      rw [hb] at e
      obtain ⟨n2,g2⟩:=jC.1 hb
      refine ⟨max n1 n2,?_⟩
      have g1' : lA (lD T (max n1 n2)) ops s = some s1:=n6 (d:=none) (mC T (Ķ n1 n2)) g1
      have g2':=qO (mC T (Ě n1 n2)) (Ě n1 n2) _ _ _ g2
      simp only [aR,g1',hcaps,h2,g2']
      exact e
theorem aRZ (s:St):ev T .ret s = some (.ret,s):=jC.2 ⟨0,rfl⟩
theorem aBj (l:List aS) (d:Option (List (Nat × Nat))) (s:St):ev T (.region l d) s = (iX (call T) l d s).map fun s'=>(.normal,s'):=by
 refine xQ fun r=>?_
 rw [jC,Â]
 constructor
 ·rintro ⟨n,hn⟩
  simp only [aR] at hn
  split at hn
  ·rename_i s' h1; cases hn; exact ⟨s',D8.2 ⟨n,h1⟩,rfl⟩
  ·cases hn
 ·rintro ⟨s',h1,rfl⟩
  obtain ⟨n,hn⟩:=D8.1 h1
  exact ⟨n,by simp only [aR,hn]⟩
theorem aRp (a b:aH) (s:St):ev T (.seq a b) s = (match ev T a s with | some (.normal,s')=>ev T b s' | r=>r):=by
 refine xQ fun r=>?_
 rw [jC]
 constructor
 ·rintro ⟨n,hn⟩
  simp only [aR] at hn
  cases ha:aR (lD T n) n a s with
  | none=>rw [ha] at hn; cases hn
  | some q =>
   obtain ⟨ex,s'⟩:=q
   rw [ha] at hn
   rw [jC.2 ⟨n,ha⟩]
   cases ex with
   | normal=>exact jC.2 ⟨n,hn⟩
   | exit id=>exact hn
   | ret=>exact hn
 ·intro e
  cases ha:ev T a s with
  | none=>rw [ha] at e; cases e
  | some q =>
   obtain ⟨ex,s'⟩:=q
   rw [ha] at e
   obtain ⟨n1,g1⟩:=jC.1 ha
   cases ex with
   | normal =>
    obtain ⟨n2,g2⟩:=jC.1 e
    refine ⟨max n1 n2,?_⟩
    simp only [aR,qO (mC T (Ķ n1 n2)) (Ķ n1 n2) _ _ _ g1]
    exact qO (mC T (Ě n1 n2)) (Ě n1 n2) _ _ _ g2
   | exit id=>exact ⟨n1,by simp only [aR,g1]; exact e⟩
   | ret=>exact ⟨n1,by simp only [aR,g1]; exact e⟩
theorem aOZ (c:d7) (a b:aH) (s:St):ev T (.cond c a b) s = (match cZ s.get c with | .d (.bool true)=>ev T a s | .d (.bool false)=>ev T b s | _=>none):=by
 refine xQ fun r=>?_
 rw [jC]
 simp only [aR]
 generalize cZ s.get c = v
 cases v with
 | d x=>cases x with
  | bool b=>cases b <;> exact jC.symm
  | _=>simp
 | _=>simp
theorem aMI (id:Nat) (a:aH) (s:St):ev T (.block id a) s = (match ev T a s with | some (.exit id',s')=>if id' = id then some (.normal,s') else some (.exit id',s') | r=>r):=by
 refine xQ fun r=>?_
 rw [jC]
 constructor
 ·rintro ⟨n,hn⟩
  simp only [aR] at hn
  cases ha:aR (lD T n) n a s with
  | none=>rw [ha] at hn; cases hn
  | some q=>rw [ha] at hn; rw [jC.2 ⟨n,ha⟩]; exact hn
 ·intro e
  cases ha:ev T a s with
  | none=>rw [ha] at e; cases e
  | some q =>
   rw [ha] at e
   obtain ⟨n1,g1⟩:=jC.1 ha
   exact ⟨n1,by simp only [aR,g1]; exact e⟩
theorem aMN (m:BE) (a:aH) (s:St):ev T (.post a m) s = (match ev T a s with | some (.normal,s')=>some (.normal,m.app s') | r=>r):=by
 refine xQ fun r=>?_
 rw [jC]
 constructor
 ·rintro ⟨n,hn⟩
  simp only [aR] at hn
  cases ha:aR (lD T n) n a s with
  | none=>rw [ha] at hn; cases hn
  | some q=>rw [ha] at hn; rw [jC.2 ⟨n,ha⟩]; exact hn
 ·intro e
  cases ha:ev T a s with
  | none=>rw [ha] at e; cases e
  | some q =>
   rw [ha] at e
   obtain ⟨n1,g1⟩:=jC.1 ha
   exact ⟨n1,by simp only [aR,g1]; exact e⟩
theorem aOJ (a:aH) (s:St):ev T (.loop a) s = (match ev T a s with | some (.normal,s')=>ev T (.loop a) s' | r=>r):=by
 refine xQ fun r=>?_
 rw [jC]
 constructor
 ·rintro ⟨n,hn⟩
  simp only [aR] at hn
  cases n with
  | zero=>cases hn
  | succ n =>
   simp only [w7] at hn
   cases ha:aR (lD T (n + 1)) (n + 1) a s with
   | none=>rw [ha] at hn; cases hn
   | some q =>
    obtain ⟨ex,s'⟩:=q
    rw [ha] at hn
    rw [jC.2 ⟨n + 1,ha⟩]
    cases ex with
    | normal=>exact jC.2 ⟨n + 1,by simp only [aR]; exact L0 (fun _ _ e=>e) (ń n) hn⟩
    | exit id=>exact hn
    | ret=>exact hn
 ·intro e
  cases ha:ev T a s with
  | none=>rw [ha] at e; cases e
  | some q =>
   obtain ⟨ex,s'⟩:=q
   rw [ha] at e
   obtain ⟨n1,g1⟩:=jC.1 ha
   cases ex with
   | normal =>
    obtain ⟨n2,g2⟩:=jC.1 e
    refine ⟨max n1 n2 + 1,?_⟩
    have h1:=qO (mC T (show n1 <= max n1 n2 + 1 by omega)) (show n1 <= max n1 n2 + 1 by omega) _ _ _ g1
    simp only [aR,w7,h1]
    simp only [aR] at g2
    exact L0 (fun s r e=>qO (mC T (show n2 <= max n1 n2 + 1 by omega)) (show n2 <= max n1 n2 + 1 by omega) _ _ _ e) (show n2 <= max n1 n2 by omega) g2
   | exit id=>exact ⟨n1 + 1,by simp only [aR,w7,qO (mC T (ń n1)) (ń n1) _ _ _ g1]; exact e⟩
   | ret=>exact ⟨n1 + 1,by simp only [aR,w7,qO (mC T (ń n1)) (ń n1) _ _ _ g1]; exact e⟩
theorem aAr {f:Nat} {o:List D->Option D} (hf:T f = some (.told o)) (ds:List D) (hlt:mO 0 ds = none):call T f ds = o ds:=by
 refine xQ fun x=>?_
 rw [AR]
 constructor
 ·rintro ⟨n,hn⟩
  cases n with
  | zero=>cases hn
  | succ n=>simpa only [lD,hf,Á hlt] using hn
 ·intro e
  exact ⟨1,by simpa only [lD,hf,Á hlt] using e⟩
theorem aN8 {f:Nat} {sf:b5} (hf:T f = some (.code sf)) (ds:List D) (hl:ds.length = sf.np) (hlt:mO 0 ds = none):call T f ds = (match ev T sf.body ⟨tM 0 ds,[]⟩ with
  | some (.normal,s)=>OV sf s
  | some (.ret,s)=>OV sf s
  | _=>none):=by
 refine xQ fun x=>?_
 rw [AR]
 constructor
 ·rintro ⟨n,hn⟩
  cases n with
  | zero=>cases hn
  | succ n =>
   simp only [lD,hf,Á hl,hlt] at hn
   cases he:aR (lD T n) n sf.body ⟨tM 0 ds,[]⟩ with
   | none=>rw [he] at hn; cases hn
   | some q=>rw [he] at hn; rw [jC.2 ⟨n,he⟩]; exact hn
 ·intro e
  cases he:ev T sf.body ⟨tM 0 ds,[]⟩ with
  | none=>rw [he] at e; cases e
  | some q =>
   rw [he] at e
   obtain ⟨n,hn⟩:=jC.1 he
   exact ⟨n + 1,by simp only [lD,hf,Á hl,hlt,hn]; exact e⟩
theorem aIV {f t:Nat} {sf:b5} (hf:T f = some (.code sf)) (ds:List D) (hl:ds.length = sf.np) (hlt:mO 0 ds = some t) (hle:sf.lend = true) (hnd:FK t sf.body = true):call T f ds = (match ev T sf.body (GS t ds) with
  | some (.normal,s)=>D9 sf s t
  | some (.ret,s)=>D9 sf s t
  | _=>none):=by
 refine xQ fun x=>?_
 rw [AR]
 constructor
 ·rintro ⟨n,hn⟩
  cases n with
  | zero=>cases hn
  | succ n =>
   simp only [lD,hf,Á hl,hlt,Á (And.intro hle hnd)] at hn
   cases he:aR (lD T n) n sf.body (GS t ds) with
   | none=>rw [he] at hn; cases hn
   | some q=>rw [he] at hn; rw [jC.2 ⟨n,he⟩]; exact hn
 ·intro e
  cases he:ev T sf.body (GS t ds) with
  | none=>rw [he] at e; cases e
  | some q =>
   rw [he] at e
   obtain ⟨n,hn⟩:=jC.1 he
   exact ⟨n + 1,by simp only [lD,hf,Á hl,hlt,Á (And.intro hle hnd),hn]; exact e⟩
end
def NC {S X:Type} (step:S->Option (S ⊕ X)):Nat->S->Option X
 | 0,_=>none
 | n + 1,s=>match step s with
  | none=>none
  | some (.inl s')=>NC step n s'
  | some (.inr x)=>some x
noncomputable def bV {S X:Type} (step:S->Option (S ⊕ X)) (s:S):Option X:=lim fun n=>NC step n s
section
variable {S X:Type} {step:S->Option (S ⊕ X)}
theorem ZO:∀ (n m:Nat) (s:S) (x:X),n <= m->NC step n s = some x->NC step m s = some x
 | 0,m,s,x,_,e=>by cases e
 | n + 1,0,s,x,h,e=>by omega
 | n + 1,m + 1,s,x,h,e=>by
  simp only [NC] at e ⊢
  split at e
  ·cases e
  ·exact ZO n m _ x (by omega) e
  ·exact e
theorem P3 {s:S} {x:X}:bV step s = some x ↔ ∃ n,NC step n s = some x:=aBw fun n m x h e=>ZO n m _ x h e
theorem aGW (s:S):bV step s = (match step s with | none=>none | some (.inl s')=>bV step s' | some (.inr x)=>some x):=by
 refine xQ fun x=>?_
 rw [P3]
 constructor
 ·rintro ⟨n,hn⟩
  cases n with
  | zero=>cases hn
  | succ n =>
   simp only [NC] at hn
   cases hs:step s with
   | none=>rw [hs] at hn; cases hn
   | some q =>
    rw [hs] at hn
    cases q with
    | inl s'=>exact P3.2 ⟨n,hn⟩
    | inr y=>exact hn
 ·intro e
  cases hs:step s with
  | none=>rw [hs] at e; cases e
  | some q =>
   rw [hs] at e
   cases q with
   | inl s'=>obtain ⟨n,hn⟩:=P3.1 e; exact ⟨n + 1,by simp only [NC,hs]; exact hn⟩
   | inr y=>exact ⟨1,by simp only [NC,hs]; exact e⟩
def bP (enc:S->St) (out:X->Ex × St):Option (S ⊕ X)->Option (Ex × St)
 | none=>none
 | some (.inl s')=>some (.normal,enc s')
 | some (.inr x)=>some (out x)
theorem aLw {T:CJ} {c:aH} (enc:S->St) (out:X->Ex × St) (hout:∀ x s,out x ≠ (.normal,s)) (h:∀ s,ev T c (enc s) = bP enc out (step s)) (s:S) :
  ev T (.loop c) (enc s) = (bV step s).map out:=by
 refine xQ fun r=>?_
 rw [Â]
 constructor
 ·intro e
  obtain ⟨n,hn⟩:=jC.1 e
  simp only [aR] at hn
  generalize hk:(n:Nat) = k at hn
  have key:∀ (k:Nat) (s:S),w7 (aR (lD T n) n c) k (enc s) = some r->∃ x,NC step k s = some x ∧ out x = r:=by
   intro k
   induction k with
   | zero=>intro s e; cases e
   | succ k ih =>
    intro s e
    simp only [w7] at e
    cases hc:aR (lD T n) n c (enc s) with
    | none=>rw [hc] at e; cases e
    | some q =>
     have h1:=jC.2 ⟨n,hc⟩
     rw [h s] at h1
     rw [hc] at e
     simp only [NC]
     cases hs:step s with
     | none=>rw [hs] at h1; cases h1
     | some y =>
      rw [hs] at h1
      cases y with
      | inl s' =>
       obtain rfl:=õ h1
       exact ih s' e
      | inr x =>
       simp only [bP,Å] at h1
       refine ⟨x,rfl,?_⟩
       obtain ⟨ex,s'⟩:=q
       cases ex with
       | normal=>exact absurd h1 (hout x s')
       | exit id=>rw [h1]; exact õ e
       | ret=>rw [h1]; exact õ e
  subst hk
  obtain ⟨x,g1,g2⟩:=key n s hn
  exact ⟨x,P3.2 ⟨n,g1⟩,g2⟩
 ·rintro ⟨x,h1,rfl⟩
  obtain ⟨n,hn⟩:=P3.1 h1
  clear h1
  induction n generalizing s with
  | zero=>cases hn
  | succ n ih =>
   simp only [NC] at hn
   rw [aOJ,h s]
   cases hs:step s with
   | none=>rw [hs] at hn; cases hn
   | some q =>
    rw [hs] at hn
    cases q with
    | inl s'=>exact ih s' hn
    | inr y =>
     obtain rfl:=õ hn
     simp only [bP]
     cases ho:out y with
     | mk ex s' =>
      cases ex with
      | normal=>exact absurd ho (hout y s')
      | exit id=>rfl
      | ret=>rfl
end
abbrev sp (n:Nat) (op:pF):aS:=⟨some n,op,none,n⟩
abbrev so (n:Nat) (op:pF) (s:Nat):aS:=⟨some n,op,none,s⟩
abbrev dI (x:Int):V:=.d (.int .i64 x)
abbrev dB (b:Bool):V:=.d (.bool b)
abbrev gf (n g:Nat) (op:pF):aS:=⟨some n,op,some (g,false),n⟩
abbrev gt (n g:Nat) (op:pF):aS:=⟨some n,op,some (g,true),n⟩
abbrev FR (a x y n:Nat):aS:=⟨none,.store a (.t x) (.t y),none,n⟩
abbrev aG (x:Nat):pF:=.move (.t x)
abbrev bI (a x:Nat):pF:=.load a false (.t x)
abbrev HH (a x:Nat):pF:=.load a true (.t x)
abbrev gE (a x:Nat):pF:=.fieldAddr a (.t x)
abbrev nA (x:Nat):pF:=.len (.t x)
abbrev dM (a x y:Nat):pF:=.indexAddr a (.t x) (.t y)
abbrev jB (k:Nat) (o:BinOp) (x y:Nat):pF:=.bin k o (.t x) (.t y)
abbrev fM (k:Nat) (o:BinOp) (x:Nat) (y:Int):pF:=.bin k o (.t x) (.c (dI y))
abbrev bx4 (x:Nat):pF:=.box (.t x)
abbrev lF (x:Int):pF:=.move (.c (dI x))
abbrev OB (x:Nat):pF:=.un .not (.t x)
abbrev m1 (a:List Nat):BE:=⟨a,[],[],[],[],[]⟩
abbrev m2 (a b:List Nat):BE:=⟨a,b,[],[],[],[]⟩
abbrev iF (l:List aS):aH:=.region l none
abbrev J4 (l:List aS) (x:List (Nat × Nat)):aH:=.region l (some x)
abbrev rN (a:List Nat):aH:=.pre ⟨a,[],[],[],[],[]⟩ .ret
abbrev vD (x:Nat) (c:aH):aH:=.cond (.t x) c .skip
abbrev bB (a b:aH):aH:=.seq a b
abbrev aP (l:List aS) (b:aH):aH:=.seq (.region l none) b
theorem j7 {P:Program} {f:Func} {s:b5} (h:i8 P f s:=by exact ⟨rfl,by decide,rfl,by decide,rfl,_,rfl,by kernel_rfl⟩):i8 P f s:=h
end Vm
end
end Go.Proofs.Ytgjcnbgfaimepaa
