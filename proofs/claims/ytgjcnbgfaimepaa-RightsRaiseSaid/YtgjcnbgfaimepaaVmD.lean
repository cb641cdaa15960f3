/- Code is run; calls are run. Calls are run; what a call answers at last. A call that is run in its caller's place amid a region whose order is drawn: all else stands ahead of it or behind it. What code and calls answer at last; equations to reckon with. -/
import Derived.Test.YtgjcnbgfaimepaaVmC
import Derived.RangeFuncRecord
set_option linter.unusedVariables false
set_option linter.unusedSimpArgs false
namespace Go.Proofs.Ytgjcnbgfaimepaa
namespace Vm
open Go.RowKit
def aDK (keep:List Nat) (bl:Nat->Option aI):V->Bool
 | .ptr id _=>match bl id with
  | some (.box _)=>keep.contains id
  | _=>false
 | _=>false
def sR (keep:List Nat) (bl:Nat->Option aI):V->V
 | .ptr id off=>match bl id with
  | some (.box _)=>if keep.contains id then .ptr id off else .any
  | some (.fbox cs)=>.d (.ptr cs off)
  | _=>.any
 | .own id ver=>match bl id with
  | some (.rows v _ _ _)=>if keep.contains id && ver == v then .own id 0 else .any
  | some (.froz v rows)=>if ver = v then .d (.sl rows) else .any
  | _=>.any
 | .orow id ver i off=>match bl id with
  | some (.rows v _ _ _)=>if keep.contains id && ver == v then .orow id 0 i off else .any
  | _=>.any
 | .fn f caps=>if caps.all (aDK keep bl) = true then .fn f caps else .any
 | .mp id=>match bl id with
  | some (.mp _ _)=>if keep.contains id then .mp id else .any
  | some (.fmp ek m)=>.d (.mp ek m)
  | _=>.any
 | v=>v
def PL (keep:List Nat) (bl:Nat->Option aI):V->V
 | .agg cs=>.agg (cs.map (sR keep bl))
 | v=>sR keep bl v
def F3 (keep:List Nat) (bl:Nat->Option aI):V->V
 | .tup vs=>.tup (vs.map (PL keep bl))
 | v=>PL keep bl v
def B4 (keep:List Nat) (bl:Nat->Option aI):aI->Option aI
 | .box cs=>some (.box (cs.map (sR keep bl)))
 | .rows _ e s rows=>some (.rows 0 e s rows)
 | .froz _ _=>none
 | .fbox _=>none
 | .outer cs=>some (.outer (cs.map (F3 keep bl)))
 | .mp ek m=>some (.mp ek m)
 | .fmp _ _=>none
def mkT (p:Nat × Nat × Nat × Nat) (s:St):St:=match s.get p.1,s.blk p.2.1 with
 | .nil,none=>if 0 < p.2.2.2 then ⟨(p.1,.own p.2.1 0) :: s.fr,(p.2.1,some (.rows 0 p.2.2.1 p.2.2.2 [])) :: s.bl⟩ else s
 | _,_=>s
def mkC (p:Nat × Nat × Nat × Nat × Nat) (s:St):St:=match s.blk p.1,s.blk p.2.2.1 with
 | some (.box cs),none=>match cs[p.2.1]? with
  | some .nil=>if 0 < p.2.2.2.2 then ⟨s.fr,(p.1,some (.box (cs.set p.2.1 (.own p.2.2.1 0)))) :: (p.2.2.1,some (.rows 0 p.2.2.2.1 p.2.2.2.2 [])) :: s.bl⟩ else s
  | _=>s
 | _,_=>s
def NA (t:Nat) (s:St):St:=match rF s.blk (s.get t) with
 | some d=>⟨(t,.d d) :: s.fr,I2 s.blk (s.get t) ++ s.bl⟩
 | none=>s
def frC (p:Nat × Nat) (s:St):St:=match s.blk p.1 with
 | some (.box cs)=>match cs[p.2]? with
  | some v=>match iX s.blk v with
   | some d=>⟨s.fr,(p.1,some (.box (cs.set p.2 (.d d)))) :: (AL s.blk v ++ s.bl)⟩
   | none=>s
  | none=>s
 | _=>s
def TY (live keep:List Nat) (s:St):St:=⟨live.map fun t=>(t,F3 keep s.blk (s.get t)),keep.map fun i=>(i,(s.blk i).bind (B4 keep s.blk))⟩
def tU.app (m:tU) (s:St):St:=TY m.live m.keep (m.fzC.foldl (fun s p=>frC p s) (m.fzT.foldl (fun s t=>NA t s) (m.ownC.foldl (fun s p=>mkC p s) (m.ownT.foldl (fun s p=>mkT p s) s))))
section
variable {nt:Nat} {w0:b7} {w:World} {h0 h:Hp} {s:St} {a:Act} {hd:Nat->Value}
theorem aDe {α:Type} (f:Nat->α) (d:α) (t:Nat):∀ l:List Nat,lk (l.map fun i=>(i,f i)) d t = if t ∈ l then f t else d
 | []=>rfl
 | k :: l=>by
  simp only [List.map_cons,lk,aDe f d t l,List.mem_cons]
  by_cases e:t = k
  ·subst e; simp
  ·simp [e]
theorem uI {fr:Nat->V} {bl bl' : Nat->Option aI} {keep:List Nat} (r:Rl nt w0 h0 fr bl a w h hd) (hbl:∀ i,bl' i = if i ∈ keep then (bl i).bind (B4 keep bl) else none) {v:Value} {x:V} (hx:R1 h hd bl v x):R1 h hd bl' v (sR keep bl x):=by
 cases x with
 | ptr id off =>
  obtain ⟨⟨b,hb,hbx⟩,g,q1,q2⟩:=hx
  simp only [sR,hb]
  cases b with
  | box cs =>
   simp only
   split
   ·rename_i hk
    exact ⟨⟨_,by rw [hbl,if_pos (by simpa using hk),hb]; rfl,rfl⟩,g,q1,q2⟩
   ·trivial
  | fbox cs =>
   have:=r.blk id _ hb
   simp only [BR,q1] at this
   subst q2
   exact ⟨rfl,M3 this⟩
  | _=>trivial
 | own id ver =>
  obtain ⟨b,c,hb,hc,hle,h1,he⟩:=hx
  simp only [sR,hb]
  cases b with
  | box cs=>trivial
  | fbox cs=>trivial
  | outer cs=>trivial
  | mp ek m=>trivial
  | fmp ek m=>trivial
  | rows v' e s rows =>
   simp only [aI.ver?,Option.some.injEq] at hc
   simp only
   split
   ·rename_i hk
    simp only [Bool.and_eq_true,beq_iff_eq] at hk
    exact ⟨_,0,by rw [hbl,if_pos (by simpa using hk.1),hb]; rfl,rfl,Nat.le_refl _,h1,fun _=>he (by omega)⟩
   ·trivial
  | froz v' rows =>
   simp only [aI.ver?,Option.some.injEq] at hc
   simp only
   split
   ·rename_i hv
    refine ⟨rfl,?_⟩
    rw [he (by omega)]
    exact r.blk id _ hb
   ·trivial
 | orow id ver i off =>
  obtain ⟨b,c,hb,hc,hle,h1,he⟩:=hx
  simp only [sR,hb]
  cases b with
  | rows v' e s rows =>
   simp only [aI.ver?,Option.some.injEq] at hc
   simp only
   split
   ·rename_i hk
    simp only [Bool.and_eq_true,beq_iff_eq] at hk
    obtain ⟨hk,rfl⟩:=hk
    refine ⟨_,0,by rw [hbl,if_pos (by simpa using hk),hb]; rfl,rfl,Nat.le_refl _,h1,fun e' s' rows' eq=>?_⟩
    cases eq
    exact he e s rows rfl
   ·trivial
  | _=>trivial
 | mp id =>
  obtain ⟨⟨b,hb,hbx⟩,q1,g,q2⟩:=hx
  simp only [sR,hb]
  cases b with
  | mp ek m =>
   simp only
   split
   ·rename_i hk
    exact ⟨⟨_,by rw [hbl,if_pos (by simpa using hk),hb]; rfl,rfl⟩,q1,g,q2⟩
   ·trivial
  | fmp ek m =>
   have:=r.blk id _ hb
   subst q1
   exact ⟨rfl,this⟩
  | _=>trivial
 | any=>trivial
 | d x=>exact hx
 | nil=>exact hx
 | agg cs=>exact hx
 | tup cs=>exact hx
 | fn f caps =>
  simp only [sR]
  split
  ·rename_i hall
   obtain ⟨arr,e,hs,hr⟩:=hx
   refine ⟨arr,e,hs,fun j x hj=>?_⟩
   have hc:=List.all_eq_true.1 hall x (List.mem_of_getElem? hj)
   have hxr:=hr j x hj
   cases x with
   | ptr id off =>
    obtain ⟨⟨b,hb,hx⟩,q⟩:=hxr
    simp only [aDK,hb] at hc
    cases b with
    | box cs =>
     simp only at hc
     exact ⟨⟨_,by rw [hbl,if_pos (by simpa using hc),hb]; rfl,rfl⟩,q⟩
    | _=>cases hc
   | _=>exact hxr.elim
  ·trivial
theorem uD {fr:Nat->V} {bl bl' : Nat->Option aI} {keep:List Nat} (r:Rl nt w0 h0 fr bl a w h hd) (hbl:∀ i,bl' i = if i ∈ keep then (bl i).bind (B4 keep bl) else none) {v:Value} {x:V} (hx:R2 h hd bl v x):R2 h hd bl' v (PL keep bl x):=by
 cases x with
 | agg cs =>
  obtain ⟨arr,rfl,h1,h2⟩:=hx
  refine ⟨arr,rfl,by simpa using h1,fun j x hx=>?_⟩
  rw [List.getElem?_map,Option.map_eq_some_iff] at hx
  obtain ⟨y,hy,rfl⟩:=hx
  exact ⟨uI r hbl (h2 j y hy).1,(h2 j y hy).2⟩
 | tup vs=>exact (show False from hx).elim
 | any=>exact R2.of1 (uI r hbl (x:=.any) hx)
 | d x=>exact R2.of1 (uI r hbl (x:=.d x) hx)
 | nil=>exact R2.of1 (uI r hbl (x:=.nil) hx)
 | ptr i o=>exact R2.of1 (uI r hbl (x:=.ptr i o) hx)
 | own i n=>exact R2.of1 (uI r hbl (x:=.own i n) hx)
 | orow i n j o=>exact R2.of1 (uI r hbl (x:=.orow i n j o) hx)
 | fn f c=>exact R2.of1 (uI r hbl (x:=.fn f c) hx)
 | mp i=>exact R2.of1 (uI r hbl (x:=.mp i) hx)
theorem aAj {fr:Nat->V} {bl bl' : Nat->Option aI} {keep:List Nat} (r:Rl nt w0 h0 fr bl a w h hd) (hbl:∀ i,bl' i = if i ∈ keep then (bl i).bind (B4 keep bl) else none) {v:Value} {x:V} (hx:R3 h hd bl v x):R3 h hd bl' v (F3 keep bl x):=by
 cases x with
 | tup vs =>
  obtain ⟨arr,rfl,h1,h2⟩:=hx
  refine ⟨arr,rfl,by simpa using h1,fun j x hx=>?_⟩
  rw [List.getElem?_map,Option.map_eq_some_iff] at hx
  obtain ⟨y,hy,rfl⟩:=hx
  exact uD r hbl (h2 j y hy)
 | agg cs=>exact R3.of2 (uD r hbl (x:=.agg cs) hx)
 | any=>exact R3.of2 (uD r hbl (x:=.any) hx)
 | d x=>exact R3.of2 (uD r hbl (x:=.d x) hx)
 | nil=>exact R3.of2 (uD r hbl (x:=.nil) hx)
 | ptr i o=>exact R3.of2 (uD r hbl (x:=.ptr i o) hx)
 | own i n=>exact R3.of2 (uD r hbl (x:=.own i n) hx)
 | orow i n j o=>exact R3.of2 (uD r hbl (x:=.orow i n j o) hx)
 | fn f c=>exact R3.of2 (uD r hbl (x:=.fn f c) hx)
 | mp i=>exact R3.of2 (uD r hbl (x:=.mp i) hx)
theorem aK6 (r:Rl nt w0 h0 s.get s.blk a w h hd) (live keep:List Nat):Rl nt w0 h0 (TY live keep s).get (TY live keep s).blk a w h hd:=by
 have hg:∀ t,(TY live keep s).get t = if t ∈ live then F3 keep s.blk (s.get t) else .any:=fun t=>aDe _ _ _ _
 have hb:∀ i,(TY live keep s).blk i = if i ∈ keep then (s.blk i).bind (B4 keep s.blk) else none:=fun i=>aDe _ _ _ _
 have hcase:∀ id b,(TY live keep s).blk id = some b->∃ b0,s.blk id = some b0 ∧ B4 keep s.blk b0 = some b:=by
  intro id b e
  rw [hb] at e
  split at e
  ·rw [Option.bind_eq_some_iff] at e; exact e
  ·cases e
 refine { tmps:=r.tmps,defers:=r.defers,fixed:=r.fixed,below:=r.below,hle:=r.hle,h0le:=r.h0le,hbase:=r.hbase,frame:=fun t=>?_,blk:=fun id b e=>?_,sep:=?_ }
 ·rw [hg]
  split
  ·exact aAj r hb (r.frame t)
  ·trivial
 ·obtain ⟨b0,e1,e2⟩:=hcase id b e
  have hB:=r.blk id b0 e1
  cases b0 with
  | box cs =>
   simp only [B4,Option.some.injEq] at e2
   subst e2
   obtain ⟨g,arr,ee,q1,q2,q3,q4,q5,q6⟩:=hB
   refine ⟨g,arr,ee,q1,q2,q3,by simpa using q4,fun j x hx=>?_,q6⟩
   rw [List.getElem?_map,Option.map_eq_some_iff] at hx
   obtain ⟨y,hy,rfl⟩:=hx
   exact ⟨uI r hb (q5 j y hy).1,(q5 j y hy).2⟩
  | rows v' ee ss rows=>simp only [B4,Option.some.injEq] at e2; subst e2; exact hB
  | froz v' rows=>cases e2
  | fbox cs=>cases e2
  | mp ek m=>simp only [B4,Option.some.injEq] at e2; subst e2; exact hB
  | fmp ek m=>cases e2
  | outer cs =>
   simp only [B4,Option.some.injEq] at e2
   subst e2
   intro j x hx
   rw [List.getElem?_map,Option.map_eq_some_iff] at hx
   obtain ⟨y,hy,rfl⟩:=hx
   exact aAj r hb (hB j y hy)
 ·intro i j bi bj g hi hj li lj gi gj
  obtain ⟨b0,e1,e2⟩:=hcase i bi hi
  obtain ⟨b1,e3,e4⟩:=hcase j bj hj
  have l0:b0.live = true:=by cases b0 <;> first | rfl | (cases e2; done) | (simp only [B4,Option.some.injEq] at e2; subst e2; simp [aI.live] at li)
  have l1:b1.live = true:=by cases b1 <;> first | rfl | (cases e4; done) | (simp only [B4,Option.some.injEq] at e4; subst e4; simp [aI.live] at lj)
  exact r.sep i j b0 b1 g e1 e3 l0 l1 gi gj
theorem aDT (r:Rl nt w0 h0 s.get s.blk a w h hd) {id e size:Nat} (hs:s.blk id = none) (hz:0 < size):∃ hd',Rl nt w0 h0 s.get (bP s.blk [(id,some (.rows 0 e size []))]) a w h hd' ∧ hd' id = .slice none 0 0 ∧ R1 h hd' (bP s.blk [(id,some (.rows 0 e size []))]) (.slice none 0 0) (.own id 0):=by
 obtain ⟨hd',hh,hr⟩:=r.newRows' (w':=w) none (fun d e=>by cases e) id hs e size [] (.slice none 0 0) [] hz (by simp [maxLen]) ⟨rfl,rfl,rfl,Nat.le_refl _,fun _ _ _=>rfl⟩ (World.ownsRow_nil w _ e size) (fun i row hi=>by simp at hi)
 exact ⟨hd',hr,hh,⟨_,0,m7 _ _ _,rfl,Nat.le_refl _,rfl,fun _=>hh.symm⟩⟩
theorem aSf (r:Rl nt w0 h0 s.get s.blk a w h hd) (p:Nat × Nat × Nat × Nat):∃ hd',Rl nt w0 h0 (mkT p s).get (mkT p s).blk a w h hd':=by
 obtain ⟨t,id,e,size⟩:=p
 unfold mkT
 split
 ·rename_i h1 h2
  split
  ·rename_i hz
   simp only at h1 h2 hz
   obtain ⟨hd',hr,hh,hv⟩:=aDT r h2 hz (e:=e)
   refine ⟨hd',?_⟩
   have e1:(⟨(t,.own id 0) :: s.fr,(id,some (.rows 0 e size [])) :: s.bl⟩ : St).get = eN s.get (some t) (.own id 0):=by
    funext t'
    simp only [St.get,lk,eN,Option.some.injEq]
    by_cases q:t' = t
    ·rw [if_pos q,if_pos q.symm]
    ·rw [if_neg q,if_neg fun x=>q x.symm]
   have e2:(⟨(t,.own id 0) :: s.fr,(id,some (.rows 0 e size [])) :: s.bl⟩ : St).blk = bP s.blk [(id,some (.rows 0 e size []))]:=by
    funext i
    simp only [St.blk,lk,bP]
   simp only at e1 e2 ⊢
   rw [e1,e2]
   refine { hr with frame:=fun t'=>?_ }
   simp only [eN,Option.some.injEq]
   by_cases q:t = t'
   ·rw [if_pos q]
    have:=r.frame t
    rw [h1] at this
    subst q
    rw [show a.tmps.getD t undef = _ from this]
    exact hv
   ·rw [if_neg q]; exact hr.frame t'
  ·exact ⟨hd,r⟩
 ·exact ⟨hd,r⟩
theorem aSc (r:Rl nt w0 h0 s.get s.blk a w h hd) (p:Nat × Nat × Nat × Nat × Nat):∃ hd',Rl nt w0 h0 (mkC p s).get (mkC p s).blk a w h hd':=by
 obtain ⟨b,c,id,e,size⟩:=p
 unfold mkC
 split
 ·rename_i cs h1 h2
  split
  ·rename_i h3
   split
   ·rename_i hz
    simp only at h1 h2 h3 hz
    obtain ⟨hd',hr,hh,hv⟩:=aDT r h2 hz (e:=e)
    have hne:b ≠ id:=fun q=>by rw [q,h2] at h1; cases h1
    have hb' : bP s.blk [(id,some (.rows 0 e size []))] b = some (.box cs):=by rw [wH _ _ hne]; exact h1
    obtain ⟨g,arr,ee,q1,q2,q3,q4,q5,q6⟩:=hr.blk b _ hb'
    have hself:arr.getD c undef = .slice none 0 0:=(q5 c _ h3).1
    obtain ⟨hd'',hr''⟩:=hr.setBox (w':=w) none (fun d e=>by cases e) undef b cs (cs.set c (.own id 0)) hb' g arr arr ee q1 (by simpa using q4) (by
     intro j x hx
     rw [List.getElem?_set] at hx
     split at hx
     ·rename_i hj
      subst hj
      split at hx
      ·cases hx
       rw [hself]
       exact ⟨hv,rfl⟩
      ·cases hx
     ·exact q5 j x hx) q3 ⟨rfl,rfl,rfl,Nat.le_refl _,fun _ _ _=>rfl⟩
    refine ⟨hd'',?_⟩
    have e2:(⟨s.fr,(b,some (.box (cs.set c (.own id 0)))) :: (id,some (.rows 0 e size [])) :: s.bl⟩ : St).blk = bP (bP s.blk [(id,some (.rows 0 e size []))]) [(b,some (.box (cs.set c (.own id 0))))]:=by
     funext i
     simp only [St.blk,lk,bP]
    simp only at e2 ⊢
    rw [e2]
    exact hr''
   ·exact ⟨hd,r⟩
  ·exact ⟨hd,r⟩
 ·exact ⟨hd,r⟩
theorem aBS {α:Type}:∀ (l m:List (Nat × α)) (d:α) (t:Nat),lk (l ++ m) d t = lk l (lk m d t) t
 | [],m,d,t=>rfl
 | (k,v) :: l,m,d,t=>by simp only [List.cons_append,lk]; rw [aBS l m d t]
theorem aRn (r:Rl nt w0 h0 s.get s.blk a w h hd) (t:Nat):∃ h',Rl nt w0 h0 (NA t s).get (NA t s).blk a w h' hd:=by
 unfold NA
 split
 ·rename_i d hd0
  refine ⟨GO w h hd (I2 s.blk (s.get t)),?_⟩
  have r':=r.freeze _ (aA2 (bl:=s.blk) (s.get t))
  have e1:(⟨(t,.d d) :: s.fr,I2 s.blk (s.get t) ++ s.bl⟩ : St).get = eN s.get (some t) (.d d):=by
   funext t'
   simp only [St.get,lk,eN,Option.some.injEq]
   by_cases q:t' = t
   ·rw [if_pos q,if_pos q.symm]
   ·rw [if_neg q,if_neg fun x=>q x.symm]
  have e2:(⟨(t,.d d) :: s.fr,I2 s.blk (s.get t) ++ s.bl⟩ : St).blk = bP s.blk (I2 s.blk (s.get t)):=by
   funext i
   simp only [St.blk,bP,aBS]
  rw [e1,e2]
  refine { r' with frame:=fun t'=>?_ }
  simp only [eN,Option.some.injEq]
  by_cases q:t = t'
  ·rw [if_pos q]
   subst q
   have hx:R1 h hd s.blk (a.tmps.getD t undef) (s.get t):=by
    have:=r.frame t
    cases hg:s.get t <;> rw [hg] at this hd0 <;> first | exact this | cases hd0
   have:=FY r (I2 s.blk (s.get t)) hx hd0 fun p hp=>hp
   exact ⟨this.2,this.1⟩
  ·rw [if_neg q]; exact r'.frame t'
 ·exact ⟨h,r⟩
theorem aAN {bl:Nat->Option aI} {v:V} {q:Nat × Option aI} {ds:List D} (h:q ∈ I2 bl v) (h2:q.2 = some (.fbox ds)):False:=by
 unfold I2 at h
 split at h
 ·split at h
  ·simp only [List.mem_singleton] at h; rw [h] at h2; cases h2
  ·cases h
 ·split at h
  ·simp only [List.mem_singleton] at h; rw [h] at h2; cases h2
  ·cases h
 ·cases h
theorem aJi {bl:Nat->Option aI} {v:V} {q:Nat × Option aI} {ds:List D} (h:q ∈ AL bl v) (h2:q.2 = some (.fbox ds)) (h3:∀ off,v = .ptr q.1 off->False):False:=by
 unfold AL at h
 split at h
 ·split at h
  ·split at h
   ·rcases List.mem_cons.1 h with e | h
    ·exact h3 _ (by rw [e])
    ·obtain ⟨x,_,hx⟩:=List.mem_flatMap.1 h
     exact aAN hx h2
   ·cases h
  ·cases h
 ·exact aAN h h2
theorem aSu (r:Rl nt w0 h0 s.get s.blk a w h hd) (p:Nat × Nat):∃ h' hd',Rl nt w0 h0 (frC p s).get (frC p s).blk a w h' hd':=by
 obtain ⟨b,c⟩:=p
 unfold frC
 split
 ·rename_i cs h1
  split
  ·rename_i v h3
   split
   ·rename_i d hd0
    simp only at h1 h3
    have r':=r.freeze _ (NK (bl:=s.blk) v)
    have hb' : bP s.blk (AL s.blk v) b = some (.box cs):=by
     refine (uA ?_).trans h1
     intro hm
     obtain ⟨q,hq,rfl⟩:=List.mem_map.1 hm
     rcases NK (bl:=s.blk) v q hq with ⟨v',e',s',rows,g1,_⟩ | ⟨cs',ds,g1,g2,_⟩ | ⟨ek,m,g1,_⟩
     ·rw [h1] at g1; cases g1
     ·refine aJi (bl:=s.blk) (v:=v) hq g2 fun off e=>?_
      subst e
      obtain ⟨ds',hds⟩ : ∃ ds',aK (rF s.blk) cs = some ds':=by
       unfold iX at hd0
       dsimp only at hd0
       rw [h1] at hd0
       obtain ⟨ds',e1,_⟩:=Option.map_eq_some_iff.1 hd0
       exact ⟨ds',e1⟩
      obtain ⟨y,_,hy⟩:=(bJ hds).2 c _ h3
      unfold rF at hy
      dsimp only at hy
      rw [h1] at hy
      cases hy
     ·rw [h1] at g1; cases g1
    obtain ⟨g,arr,ee,q1,q2,q3,q4,q5,q6⟩:=r'.blk b _ hb'
    obtain ⟨_,arr0,ee0,z1,z2,z3,z4,z5,z6⟩:=r.blk b _ h1
    rw [q1] at z1; cases z1
    rw [q3] at z3; cases z3
    have hval:=mP r (AL s.blk v) (z5 c v h3).1 hd0 fun p hp=>hp
    obtain ⟨hd'',hr''⟩:=r'.setBox (w':=w) none (fun d e=>by cases e) undef b cs (cs.set c (.d d)) hb' g arr arr ee q1 (by simpa using q4) (by
     intro j x hx
     rw [List.getElem?_set] at hx
     split at hx
     ·rename_i hj
      subst hj
      split at hx
      ·cases hx
       exact ⟨⟨hval.2,hval.1⟩,(z5 c v h3).2⟩
      ·cases hx
     ·exact q5 j x hx) q3 ⟨rfl,rfl,rfl,Nat.le_refl _,fun _ _ _=>rfl⟩
    refine ⟨GO w h hd (AL s.blk v),hd'',?_⟩
    have e2:(⟨s.fr,(b,some (.box (cs.set c (.d d)))) :: (AL s.blk v ++ s.bl)⟩ : St).blk = bP (bP s.blk (AL s.blk v)) [(b,some (.box (cs.set c (.d d))))]:=by
     funext i
     simp only [St.blk,lk,bP,aBS]
    simp only at e2 ⊢
    rw [e2]
    exact hr''
   ·exact ⟨h,hd,r⟩
  ·exact ⟨h,hd,r⟩
 ·exact ⟨h,hd,r⟩
theorem H9 {α:Type} (f:α->St->St) (hf:∀ (x:α) (s:St) (h:Hp) (hd:Nat->Value),Rl nt w0 h0 s.get s.blk a w h hd->∃ h' hd',Rl nt w0 h0 (f x s).get (f x s).blk a w h' hd'):∀ (l:List α) (s:St) (h:Hp) (hd:Nat->Value),Rl nt w0 h0 s.get s.blk a w h hd->∃ h' hd',Rl nt w0 h0 (l.foldl (fun s x=>f x s) s).get (l.foldl (fun s x=>f x s) s).blk a w h' hd'
 | [],s,h,hd,r=>⟨h,hd,r⟩
 | x :: l,s,h,hd,r=>by
  obtain ⟨h',hd',r'⟩:=hf x s h hd r
  exact H9 f hf l (f x s) h' hd' r'
theorem yD (r:Rl nt w0 h0 s.get s.blk a w h hd) (m:tU):∃ h' hd',Rl nt w0 h0 (m.app s).get (m.app s).blk a w h' hd':=by
 obtain ⟨h1,hd1,r1⟩:=H9 mkT (fun x s h hd r=>⟨h,aSf r x⟩) m.ownT s h hd r
 obtain ⟨h2,hd2,r2⟩:=H9 mkC (fun x s h hd r=>⟨h,aSc r x⟩) m.ownC _ h1 hd1 r1
 obtain ⟨h3,hd3,r3⟩:=H9 NA (fun x s h hd r=>let ⟨h',q⟩:=aRn r x; ⟨h',hd,q⟩) m.fzT _ h2 hd2 r2
 obtain ⟨h4,hd4,r4⟩:=H9 frC (fun x s h hd r=>aSu r x) m.fzC _ h3 hd3 r3
 exact ⟨h4,hd4,aK6 r4 m.live m.keep⟩
end
inductive Ex where
 | normal | exit (id:Nat) | ret
def Ex.go:Ex->Exit
 | .normal=>.normal
 | .exit id=>.exit id
 | .ret=>.ret
def qT (f:St->Option (Ex × St)):Nat->St->Option (Ex × St)
 | 0,_=>none
 | n + 1,s=>match f s with
  | some (.normal,s')=>qT f n s'
  | r=>r
def tJ (s:St):j5->Option V
 | .tmp t=>some (s.get t)
 | .cell t size isAgg=>match cJ (fun _ _=>none) 0 (fun _=>s.get t) s.blk (.load size isAgg (.t t)) with
  | some (v,_)=>some v
  | none=>none
def nO:Nat->List V->List (Nat × V)
 | _,[]=>[]
 | i,v :: vs=>(i,v) :: nO (i + 1) vs
def V.noTup:V->Bool
 | .tup _=>false
 | _=>true
def UM (args:List bM) (id:Nat) (slots:List Nat) (s:St):Option St :=
 if (s.blk id).isNone = true then some ⟨nO 0 (args.map (bL s.get)),(id,some (.outer (slots.map s.get))) :: s.bl⟩ else none
def CO (ws:List V) (id:Nat) (slots:List Nat) (s:St):Option St :=
 if (s.blk id).isNone = true then some ⟨nO 0 ws,(id,some (.outer (slots.map s.get))) :: s.bl⟩ else none
def FU (f nc:Nat):V->Option (List V)
 | .fn g caps=>if g = f ∧ caps.length = nc then some caps else none
 | _=>none
def OI (dst:Option Nat) (v:V):List (Nat × V):=match dst with
 | some d=>[(d,v)]
 | none=>[]
def lG (dst:Option Nat) (res:List j5) (id:Nat) (slots:List Nat) (s:St):Option St:=match s.blk id,aK (tJ s) res with
 | some (.outer cs),some [v]=>some ⟨OI dst v ++ slots.zip cs,(id,none) :: s.bl⟩
 | some (.outer cs),some vs=>if vs.all V.noTup = true then some ⟨OI dst (.tup vs) ++ slots.zip cs,(id,none) :: s.bl⟩ else none
 | _,_=>none
def aP (C:Nat->List D->Option D) (n:Nat):aG->St->Option (Ex × St)
 | .skip,s=>some (.normal,s)
 | .region ops draw,s=>match fT C ops draw s with
  | some s'=>some (.normal,s')
  | none=>none
 | .seq a b,s=>match aP C n a s with
  | some (.normal,s')=>aP C n b s'
  | r=>r
 | .cond c a b,s=>match bL s.get c with
  | .d (.bool true)=>aP C n a s
  | .d (.bool false)=>aP C n b s
  | _=>none
 | .block id a,s=>match aP C n a s with
  | some (.exit id',s')=>if id' = id then some (.normal,s') else some (.exit id',s')
  | r=>r
 | .loop a,s=>qT (aP C n a) n s
 | .exit id,s=>some (.exit id,s)
 | .ret,s=>some (.ret,s)
 | .inlv ops x nc args dst f body res id slots,s=>match iP C ops s with
  | none=>none
  | some s1=>match FU f nc (bL s1.get x) with
   | none=>none
   | some caps=>match CO (args.map (bL s1.get) ++ caps) id slots s1 with
    | none=>none
    | some s2=>match aP C n body s2 with
     | some (.normal,s3)=>(lG dst res id slots s3).map fun s4=>(.normal,s4)
     | some (.ret,s3)=>(lG dst res id slots s3).map fun s4=>(.normal,s4)
     | _=>none
 | .pre m a,s=>aP C n a (m.app s)
 | .post a m,s=>match aP C n a s with
  | some (.normal,s')=>some (.normal,m.app s')
  | r=>r
 | .hand g,s=>match g s with
  | some s'=>some (.normal,s')
  | none=>none
 | .inl ops args dst f body res id slots,s=>match iP C ops s with
  | none=>none
  | some s1=>match UM args id slots s1 with
   | none=>none
   | some s2=>match aP C n body s2 with
    | some (.normal,s3)=>(lG dst res id slots s3).map fun s4=>(.normal,s4)
    | some (.ret,s3)=>(lG dst res id slots s3).map fun s4=>(.normal,s4)
    | _=>none
theorem SF {P:Program} {c:Code} {Q:Exit->Act->World->Prop} (G:Nat->Act->World->Prop) (zero:∀ a w,¬ G 0 a w) (round:∀ k a w,G (k + 1) a w->c.wp P (Exit.then (fun a' w'=>G k a' w') Q) a w) :
  ∀ k a w,G k a w->(Code.loop c).wp P Q a w:=by
 intro k a w hG
 have least:∀ a w,(∃ k,G k a w)->∃ k,G k a w ∧ ∀ j,G j a w->k <= j:=by
  intro a w ⟨k,hk⟩
  induction k using Nat.strongRecOn with
  | _ k ih =>
   by_cases h:∃ j,j < k ∧ G j a w
   ·obtain ⟨j,hj,hg⟩:=h; exact ih j hj hg
   ·exact ⟨k,hk,fun j hj=>Nat.le_of_not_lt fun hlt=>h ⟨j,hlt,hj⟩⟩
 refine wp_loop (fun a w=>∃ k,G k a w) (fun a w=>@dite _ (∃ k,G k a w) (Classical.propDecidable _) (fun h=>(least a w h).choose) (fun _=>0)) ⟨k,hG⟩ ?_
 intro a w hI
 have hsp:=(least a w hI).choose_spec
 generalize hk0:(least a w hI).choose = k0 at hsp
 obtain ⟨g1,g2⟩:=hsp
 cases k0 with
 | zero=>exact absurd g1 (zero a w)
 | succ k1 =>
  refine wp_mono (round k1 a w g1) fun e a' w' hq=>?_
  cases e with
  | normal =>
   refine ⟨⟨k1,hq⟩,?_⟩
   have hI' : ∃ k,G k a' w':=⟨k1,hq⟩
   have h2:=(least a' w' hI').choose_spec.2 k1 hq
   simp only [dif_pos hI',dif_pos hI,hk0]
   omega
  | _=>exact hq
section
variable {P:Program} {nt:Nat} {w0:b7} {h0:Hp} {C:Nat->List D->Option D}
def vU (w0:b7):Code->Prop
 | .region _ ops _=>TA w0 ops
 | .seq a b=>vU w0 a ∧ vU w0 b
 | .cond _ a b=>vU w0 a ∧ vU w0 b
 | .block _ a=>vU w0 a
 | .loop a=>vU w0 a
 | _=>True
theorem vU.none (h:∀ t,w0.F t = none):∀ c,vU w0 c
 | .region _ ops _=>fun _ _ d _=>h d
 | .seq a b=>⟨vU.none h a,vU.none h b⟩
 | .cond _ a b=>⟨vU.none h a,vU.none h b⟩
 | .block _ a=>vU.none h a
 | .loop a=>vU.none h a
 | .skip=>trivial
 | .exit _=>trivial
 | .ret=>trivial
 | .goto _=>trivial
 | .label _=>trivial
 | .scope _=>trivial
 | .refuse _=>trivial
 | .rangeFunc _ _ _ _=>trivial
theorem WC (hC:qK P C) (hm:P.follows .mixedOrders = true) (n:Nat):∀ (sc:aG) (c:Code) (s s' : St) (ex:Ex) (a:Act) (w:World) (h:Hp) (hd:Nat->Value) (Q:Exit->Act->World->Prop),
  vU w0 c->nF P nt c = some sc.bare->aP C n sc s = some (ex,s')->Rl nt w0 h0 s.get s.blk a w h hd->(∀ a' w' h' hd',Rl nt w0 h0 s'.get s'.blk a' w' h' hd'->Q ex.go a' w')->c.wp P Q a w:=by
 intro sc
 induction sc with
 | skip =>
  intro c s s' ex a w h hd Q hF hl he r hQ
  cases c <;> simp only [nF,aG.bare] at hl
  case skip=>simp only [aP,Option.some.injEq,Prod.mk.injEq] at he; obtain ⟨rfl,rfl⟩:=he; exact wp_skip (hQ _ _ _ _ r)
  case region=>split at hl <;> first | (cases hl; done) | skip; split at hl <;> first | (cases hl; done) | skip; split at hl <;> cases hl
  case seq=>split at hl <;> cases hl
  case cond=>split at hl <;> cases hl
  case block=>rw [Option.map_eq_some_iff] at hl; obtain ⟨_,_,e⟩:=hl; cases e
  case loop=>rw [Option.map_eq_some_iff] at hl; obtain ⟨_,_,e⟩:=hl; cases e
  all_goals cases hl
 | region ops draw =>
  intro c s s' ex a w h hd Q hF hl he r hQ
  cases c <;> simp only [nF,aG.bare] at hl
  case region id rops dr =>
   split at hl
   ·cases hl
   ·rename_i l hlow
    simp only [aP] at he
    split at he
    ·rename_i s1 h1
     cases he
     split at hl
     ·rename_i hdr
      split at hl
      ·rename_i hok
       cases hl
       subst hdr
       exact T3 hC hm hF hlow (draw:=true) (by simp [hok]) h1 r hQ
      ·cases hl
     ·rename_i hdr
      cases hl
      have:dr = false:=by simpa using hdr
      subst this
      exact T3 hC hm hF hlow (draw:=false) (by simp) h1 r hQ
    ·cases he
  case seq=>split at hl <;> cases hl
  case cond=>split at hl <;> cases hl
  case block=>rw [Option.map_eq_some_iff] at hl; obtain ⟨_,_,e⟩:=hl; cases e
  case loop=>rw [Option.map_eq_some_iff] at hl; obtain ⟨_,_,e⟩:=hl; cases e
  all_goals cases hl
 | seq x y ihx ihy =>
  intro c s s' ex a w h hd Q hF hl he r hQ
  cases c <;> simp only [nF,aG.bare] at hl
  case region=>split at hl <;> first | (cases hl; done) | skip; split at hl <;> first | (cases hl; done) | skip; split at hl <;> cases hl
  case seq ca cb =>
   split at hl
   ·rename_i l1 l2 h1 h2
    cases hl
    refine wp_seq ?_
    simp only [aP] at he
    split at he
    ·rename_i s1 he1
     exact ihx ca s s1 .normal a w h hd _ hF.1 h1 he1 r fun a' w' h' hd' r'=>ihy cb s1 s' ex a' w' h' hd' Q hF.2 h2 he r' hQ
    ·rename_i hne
     refine ihx ca s s' ex a w h hd _ hF.1 h1 he r fun a' w' h' hd' r'=>?_
     cases ex with
     | normal=>exact absurd he (hne _)
     | exit id=>exact hQ _ _ _ _ r'
     | ret=>exact hQ _ _ _ _ r'
   ·cases hl
  case cond=>split at hl <;> cases hl
  case block=>rw [Option.map_eq_some_iff] at hl; obtain ⟨_,_,e⟩:=hl; cases e
  case loop=>rw [Option.map_eq_some_iff] at hl; obtain ⟨_,_,e⟩:=hl; cases e
  all_goals cases hl
 | cond c x y ihx ihy =>
  intro cc s s' ex a w h hd Q hF hl he r hQ
  cases cc <;> simp only [nF,aG.bare] at hl
  case region=>split at hl <;> first | (cases hl; done) | skip; split at hl <;> first | (cases hl; done) | skip; split at hl <;> cases hl
  case seq=>split at hl <;> cases hl
  case cond co ca cb =>
   split at hl
   ·rename_i l0 l1 l2 h1 h2 h3
    cases hl
    have hc:=aV r.frame h1
    simp only [aP] at he
    split at he
    ·rename_i hb
     rw [hb] at hc
     exact wp_cond_true (jR hc) (ihx ca s s' ex a w h hd Q hF.1 h2 he r hQ)
    ·rename_i hb
     rw [hb] at hc
     exact wp_cond_false (jR hc) (ihy cb s s' ex a w h hd Q hF.2 h3 he r hQ)
    ·cases he
   ·cases hl
  case block=>rw [Option.map_eq_some_iff] at hl; obtain ⟨_,_,e⟩:=hl; cases e
  case loop=>rw [Option.map_eq_some_iff] at hl; obtain ⟨_,_,e⟩:=hl; cases e
  all_goals cases hl
 | block id x ih =>
  intro c s s' ex a w h hd Q hF hl he r hQ
  cases c <;> simp only [nF,aG.bare] at hl
  case region=>split at hl <;> first | (cases hl; done) | skip; split at hl <;> first | (cases hl; done) | skip; split at hl <;> cases hl
  case seq=>split at hl <;> cases hl
  case cond=>split at hl <;> cases hl
  case block id' ca =>
   rw [Option.map_eq_some_iff] at hl
   obtain ⟨l1,h1,e⟩:=hl
   cases e
   refine wp_block ?_
   simp only [aP] at he
   split at he
   ·rename_i id'' s1 he1
    refine ih ca s s1 (.exit id'') a w h hd _ hF h1 he1 r fun a' w' h' hd' r'=>?_
    simp only [Ex.go,Exit.inBlock]
    split at he
    ·rename_i hid
     cases he
     rw [if_pos hid]
     exact hQ _ _ _ _ r'
    ·rename_i hid
     cases he
     rw [if_neg hid]
     exact hQ _ _ _ _ r'
   ·rename_i hne
    refine ih ca s s' ex a w h hd _ hF h1 he r fun a' w' h' hd' r'=>?_
    cases ex with
    | normal=>exact hQ _ _ _ _ r'
    | exit id=>exact absurd he (hne _ _)
    | ret=>exact hQ _ _ _ _ r'
  case loop=>rw [Option.map_eq_some_iff] at hl; obtain ⟨_,_,e⟩:=hl; cases e
  all_goals cases hl
 | loop x ih =>
  intro c s s' ex a w h hd Q hF hl he r hQ
  cases c <;> simp only [nF,aG.bare] at hl
  case region=>split at hl <;> first | (cases hl; done) | skip; split at hl <;> first | (cases hl; done) | skip; split at hl <;> cases hl
  case seq=>split at hl <;> cases hl
  case cond=>split at hl <;> cases hl
  case block=>rw [Option.map_eq_some_iff] at hl; obtain ⟨_,_,e⟩:=hl; cases e
  case loop ca =>
   rw [Option.map_eq_some_iff] at hl
   obtain ⟨l1,h1,e⟩:=hl
   cases e
   simp only [aP] at he
   refine SF (fun k a w=>∃ s h hd,qT (aP C n x) k s = some (ex,s') ∧ Rl nt w0 h0 s.get s.blk a w h hd) (fun a w ⟨s,h,hd,q,_⟩=>by simp [qT] at q) ?_ n a w ⟨s,h,hd,he,r⟩
   rintro k a w ⟨s,h,hd,q,r⟩
   simp only [qT] at q
   split at q
   ·rename_i s1 he1
    exact ih ca s s1 .normal a w h hd _ hF h1 he1 r fun a' w' h' hd' r'=>⟨s1,h',hd',q,r'⟩
   ·rename_i hne
    refine ih ca s s' ex a w h hd _ hF h1 q r fun a' w' h' hd' r'=>?_
    cases ex with
    | normal=>exact absurd q (hne _)
    | exit id=>exact hQ _ _ _ _ r'
    | ret=>exact hQ _ _ _ _ r'
  all_goals cases hl
 | exit id =>
  intro c s s' ex a w h hd Q hF hl he r hQ
  cases c <;> simp only [nF,aG.bare] at hl
  case region=>split at hl <;> first | (cases hl; done) | skip; split at hl <;> first | (cases hl; done) | skip; split at hl <;> cases hl
  case seq=>split at hl <;> cases hl
  case cond=>split at hl <;> cases hl
  case block=>rw [Option.map_eq_some_iff] at hl; obtain ⟨_,_,e⟩:=hl; cases e
  case loop=>rw [Option.map_eq_some_iff] at hl; obtain ⟨_,_,e⟩:=hl; cases e
  case exit=>cases hl; simp only [aP,Option.some.injEq,Prod.mk.injEq] at he; obtain ⟨rfl,rfl⟩:=he; exact wp_exit (hQ _ _ _ _ r)
  all_goals cases hl
 | ret =>
  intro c s s' ex a w h hd Q hF hl he r hQ
  cases c <;> simp only [nF,aG.bare] at hl
  case region=>split at hl <;> first | (cases hl; done) | skip; split at hl <;> first | (cases hl; done) | skip; split at hl <;> cases hl
  case seq=>split at hl <;> cases hl
  case cond=>split at hl <;> cases hl
  case block=>rw [Option.map_eq_some_iff] at hl; obtain ⟨_,_,e⟩:=hl; cases e
  case loop=>rw [Option.map_eq_some_iff] at hl; obtain ⟨_,_,e⟩:=hl; cases e
  case ret=>simp only [aP,Option.some.injEq,Prod.mk.injEq] at he; obtain ⟨rfl,rfl⟩:=he; exact wp_ret (hQ _ _ _ _ r)
  all_goals cases hl
 | hand g =>
  intro c s s' ex a w h hd Q hF hl he r hQ
  cases c <;> simp only [nF,aG.bare] at hl
  case region=>split at hl <;> first | (cases hl; done) | skip; split at hl <;> first | (cases hl; done) | skip; split at hl <;> cases hl
  case seq=>split at hl <;> cases hl
  case cond=>split at hl <;> cases hl
  case block=>rw [Option.map_eq_some_iff] at hl; obtain ⟨_,_,e⟩:=hl; cases e
  case loop=>rw [Option.map_eq_some_iff] at hl; obtain ⟨_,_,e⟩:=hl; cases e
  all_goals cases hl
 | inl ops args dst f body res id slots ih =>
  intro c s s' ex a w h hd Q hF hl he r hQ
  cases c <;> simp only [nF,aG.bare] at hl
  case region=>split at hl <;> first | (cases hl; done) | skip; split at hl <;> first | (cases hl; done) | skip; split at hl <;> cases hl
  case seq=>split at hl <;> cases hl
  case cond=>split at hl <;> cases hl
  case block=>rw [Option.map_eq_some_iff] at hl; obtain ⟨_,_,e⟩:=hl; cases e
  case loop=>rw [Option.map_eq_some_iff] at hl; obtain ⟨_,_,e⟩:=hl; cases e
  all_goals cases hl
 | inlv ops x nc args dst f body res id slots ih =>
  intro c s s' ex a w h hd Q hF hl he r hQ
  cases c <;> simp only [nF,aG.bare] at hl
  case region=>split at hl <;> first | (cases hl; done) | skip; split at hl <;> first | (cases hl; done) | skip; split at hl <;> cases hl
  case seq=>split at hl <;> cases hl
  case cond=>split at hl <;> cases hl
  case block=>rw [Option.map_eq_some_iff] at hl; obtain ⟨_,_,e⟩:=hl; cases e
  case loop=>rw [Option.map_eq_some_iff] at hl; obtain ⟨_,_,e⟩:=hl; cases e
  all_goals cases hl
 | pre m x ih =>
  intro c s s' ex a w h hd Q hF hl he r hQ
  simp only [aG.bare] at hl
  simp only [aP] at he
  obtain ⟨h',hd',r'⟩:=yD r m
  exact ih c _ s' ex a w h' hd' Q hF hl he r' hQ
 | post x m ih =>
  intro c s s' ex a w h hd Q hF hl he r hQ
  simp only [aG.bare] at hl
  simp only [aP] at he
  split at he
  ·rename_i s1 he1
   cases he
   refine ih c s s1 .normal a w h hd Q hF hl he1 r fun a' w' h' hd' r'=>?_
   obtain ⟨h'',hd'',r''⟩:=yD r' m
   exact hQ _ _ _ _ r''
  ·rename_i hne
   exact ih c s s' ex a w h hd Q hF hl he r hQ
end
end Vm
end Go.Proofs.Ytgjcnbgfaimepaa
namespace Go.Proofs.Ytgjcnbgfaimepaa
namespace Vm
open Go.RowKit
def aKf:D->V
 | .tup _=>.any
 | x=>aOb x
def nV:Nat->List D->List (Nat × V)
 | _,[]=>[]
 | i,d :: ds=>(i,aKf d) :: nV (i + 1) ds
def aQp (bl:Nat->Option aI):V->List Nat
 | .own id ver=>match bl id with
  | some (.rows v _ _ _)=>if ver = v then [id] else []
  | _=>[]
 | .mp id=>match bl id with
  | some (.mp _ _)=>[id]
  | _=>[]
 | _=>[]
def aL1 (bl:Nat->Option aI):V->List Nat
 | .agg cs=>cs.flatMap (aQp bl)
 | v=>aQp bl v
def NU (bl:Nat->Option aI):V->List Nat
 | .tup vs=>vs.flatMap (aL1 bl)
 | v=>aL1 bl v
def aMb:List Nat->Nat->Option Nat
 | [],_=>none
 | a :: l,x=>if a = x then some 0 else (aMb l x).map (· + 1)
def inN:List Nat->Nat->Bool
 | [],_=>false
 | a :: l,x=>if a = x then true else inN l x
def WW:List Nat->Bool
 | []=>true
 | a :: l=>if inN l a = true then false else WW l
def aFd (bl:Nat->Option aI) (ids:List Nat):V->Option D
 | .d x=>some x
 | .nil=>some (.sl [])
 | .own id ver=>match bl id with
  | some (.rows v _ _ _)=>if ver = v then (aMb ids id).map .ref else none
  | some (.froz v rows)=>if ver = v then some (.sl rows) else none
  | _=>none
 | .mp id=>match bl id with
  | some (.mp _ _)=>(aMb ids id).map .mref
  | some (.fmp ek m)=>some (.mp ek m)
  | _=>none
 | _=>none
def aEG (bl:Nat->Option aI) (ids:List Nat):V->Option D
 | .agg cs=>(aK (aFd bl ids) cs).map .agg
 | v=>aFd bl ids v
def toR (bl:Nat->Option aI) (ids:List Nat):V->Option D
 | .tup vs=>(aK (aEG bl ids) vs).map .tup
 | v=>aEG bl ids v
def aSj (bl:Nat->Option aI) (id:Nat):Option (Nat × Nat):=match bl id with
 | some (.rows _ e size _)=>if size = 0 then none else some (e,size)
 | some (.mp ek _)=>some (ek,0)
 | _=>none
def aRC (bl:Nat->Option aI) (id:Nat):Option (List (List D)):=match bl id with
 | some (.rows _ _ _ rows)=>some rows
 | some (.mp _ m)=>some (aRP m)
 | _=>none
def vB (bl:Nat->Option aI) (v:V):Option D :=
 if WW (NU bl v) = true then
  match toR bl (NU bl v) v,aK (aSj bl) (NU bl v),aK (aRC bl) (NU bl v) with
  | some x,some es,some rs=>some (.own x es rs)
  | _,_,_=>none
 else none
def HM (sf:dE) (s:St):Option D:=match aK (tJ s) sf.results with
 | none=>none
 | some [v]=>if sf.fresh = true then vB s.blk v else iY s.blk v
 | some vs=>if sf.fresh = true then vB s.blk (.tup vs) else toD s.blk (.tup vs)
def yF (sf:dE) (s:St) (t:Nat):Option D:=match s.get t with
 | .own id ver=>match s.blk id with
  | some (.rows v e size rows)=>if ver = v then match aK (tJ s) sf.results with
    | none=>none
    | some [u]=>match iY s.blk u with
     | some y=>if IA y = true then some (.own y [(e,size)] [rows]) else none
     | none=>none
    | some us=>match toD s.blk (.tup us) with
     | some y=>if IA y = true then some (.own y [(e,size)] [rows]) else none
     | none=>none
   else none
  | _=>none
 | _=>none
def BK (t:Nat) (ds:List D):St:=⟨(t,.own 900000 0) :: nV 0 ds,match (ds[t]?).bind QY with
 | some (e,size,rows)=>[(900000,some (.rows 0 e size rows))]
 | none=>[]⟩
def zZ (t:Nat):aG->Bool
 | .region ops _=>ops.all fun o=>match o.dst with
  | some d=>d != t
  | none=>true
 | .seq a b=>zZ t a && zZ t b
 | .cond _ a b=>zZ t a && zZ t b
 | .block _ a=>zZ t a
 | .loop a=>zZ t a
 | .pre _ a=>zZ t a
 | .post a _=>zZ t a
 | _=>true
inductive Def where
 | code (sf:dE)
 | told (o:List D->Option D)
 /-- told,and lent a slice -/
 | toldL (o:List D->Option D)
abbrev wE:=Nat->Option Def
def iV (T:wE):Nat->Nat->List D->Option D
 | 0,_,_=>none
 | n + 1,f,args=>match T f with
  | none=>none
  | some (.told o)=>if jH 0 args = none then o args else none
  | some (.toldL o)=>if (jH 0 args).isSome = true then o args else none
  | some (.code sf)=>if args.length = sf.np then match jH 0 args with
    | none=>match aP (iV T n) n sf.body ⟨nV 0 args,[]⟩ with
     | some (.normal,s)=>HM sf s
     | some (.ret,s)=>HM sf s
     | _=>none
    | some t=>if sf.lend = true ∧ zZ t sf.body = true then match aP (iV T n) n sf.body (BK t args) with
      | some (.normal,s)=>yF sf s t
      | some (.ret,s)=>yF sf s t
      | _=>none
     else none
   else none
theorem LB:∀ (l:List D) (i t:Nat),lk (nV i l) .any t = if i <= t then (match l[t - i]? with | some d=>aKf d | none=>.any) else .any
 | [],i,t=>by simp [nV,lk]
 | d :: l,i,t=>by
  simp only [nV,lk,LB l (i + 1) t]
  by_cases e:t = i
  ·subst e; simp
  ·rw [if_neg e]
   by_cases h:i + 1 <= t
   ·rw [if_pos h,if_pos (by omega)]
    have:t - i = (t - (i + 1)) + 1:=by omega
    rw [this,List.getElem?_cons_succ]
   ·rw [if_neg h,if_neg (by omega)]
section
variable {P:Program}
theorem aEg {h:Hp} {hd:Nat->Value} {bl:Nat->Option aI} {v:Value} {d:D} (r:aT h v d):R3 h hd bl v (aKf d):=by
 cases d with
 | tup vs=>trivial
 | agg cs=>exact R3.of2 (wP r (fun vs e=>by cases e))
 | int k n=>exact R3.of2 (wP r (fun vs e=>by cases e))
 | bool b=>exact R3.of2 (wP r (fun vs e=>by cases e))
 | str s=>exact R3.of2 (wP r (fun vs e=>by cases e))
 | sl rows=>exact R3.of2 (wP r (fun vs e=>by cases e))
 | ptr row off=>exact R3.of2 (wP r (fun vs e=>by cases e))
 | fn f caps=>exact R3.of2 (wP r (fun vs e=>by cases e))
 | np=>exact R3.of2 (wP r (fun vs e=>by cases e))
 | mp ek m=>exact R3.of2 (wP r (fun vs e=>by cases e))
 | ref n=>cases r
 | mref n=>cases r
 | own x es rs=>cases r
theorem uV {nt:Nat} {w0:b7} {w:World} {h0 h:Hp} {s:St} {a:Act} {hd:Nat->Value} (r:Rl nt w0 h0 s.get s.blk a w h hd):∀ (l:List ResultVar) (rs:List j5) (vs:List V),aK (RO P) l = some rs->aK (tJ s) rs = some vs ->
  ∃ cvs:List Value,(l.mapM fun x=>(match x with | .tmp t=>pure (a.tmps.getD t undef) | .cell b t=>do loadVar t (← asAddr (a.tmps.getD b undef)):Sem Value)).run P w = .ok cvs w ∧ cvs.length = vs.length ∧ ∀ (j:Nat) (x:V),vs[j]? = some x->R3 h hd s.blk (cvs.getD j undef) x
 | [],rs,vs,h1,h2=>by
  simp only [aK,Option.some.injEq] at h1
  subst h1
  simp only [aK,Option.some.injEq] at h2
  subst h2
  exact ⟨[],by simp,rfl,fun j x hx=>by simp at hx⟩
 | x :: l,rs,vs,h1,h2=>by
  simp only [aK] at h1
  split at h1
  ·cases h1
  ·rename_i y hy
   split at h1
   ·cases h1
   ·rename_i ys hys
    cases h1
    simp only [aK] at h2
    split at h2
    ·cases h2
    ·rename_i v hv
     split at h2
     ·cases h2
     ·rename_i us hus
      cases h2
      obtain ⟨cvs,g1,g2,g3⟩:=uV r l ys us hys hus
      have hone:∃ cv,((match x with | .tmp t=>pure (a.tmps.getD t undef) | .cell b t=>do loadVar t (← asAddr (a.tmps.getD b undef)):Sem Value)).run P w = .ok cv w ∧ R3 h hd s.blk cv v:=by
       cases x with
       | tmp t =>
        simp only [RO,Option.some.injEq] at hy
        subst hy
        simp only [tJ,Option.some.injEq] at hv
        subst hv
        exact ⟨_,rfl,r.frame t⟩
       | cell b t =>
        simp only [RO] at hy
        split at hy
        ·rename_i ag i hag hi
         cases hy
         simp only [tJ] at hv
         split at hv
         ·rename_i v' wr hload
          cases hv
          have:=aEr (P:=P) (C:=fun _ _=>none) (site:=0) (x:=.t b) (xv:=a.tmps.getD b undef) r hag hi (r.frame b) (v:=v) (wr:=wr) (by simpa [cJ,bL] using hload)
          obtain ⟨_,cv,q1,q2⟩:=this
          refine ⟨cv,?_,q2⟩
          cases hp:a.tmps.getD b undef <;> rw [hp] at q1 <;> first | (simp [Instr.loadAt,Instr.sureAddr] at q1; done) | skip
          rename_i ao
          cases ao with
          | none=>simp [Instr.loadAt,Instr.sureAddr] at q1
          | some ad =>
           have hp' : a.tmps[b]?.getD undef = .pointer (some ad):=by simpa using hp
           simpa [Instr.loadAt,Instr.sureAddr,asAddr,hp'] using q1
         ·cases hv
        ·cases hy
      obtain ⟨cv,q1,q2⟩:=hone
      refine ⟨cv :: cvs,?_,by simp [g2],fun j z hz=>?_⟩
      ·rw [List.mapM_cons]
       simp only [Sem.run_bind,q1,Result.andThen_ok,g1,Sem.run_pure]
      ·cases j with
       | zero=>simp at hz; subst hz; simpa using q2
       | succ j=>simpa using g3 j z (by simpa using hz)
theorem aT.toF {base:b7} {w:World} {h:Hp} {v:Value} {x:D} (r:aT h v x):xY base w h v x:=by
 cases x <;> first | exact r | (cases r; done)
theorem aAV {bl:Nat->Option aI} {vs:List V} {x:D} (e:vB bl (.tup vs) = some x) {j:Nat} {z:V} (hz:vs[j]? = some z):∃ y,aEG bl (NU bl (.tup vs)) z = some y:=by
 unfold vB at e
 split at e
 ·split at e
  ·rename_i y es rs hy hes hrs
   simp only [toR,Option.map_eq_some_iff] at hy
   obtain ⟨ds,hm,_⟩:=hy
   obtain ⟨y,_,h2⟩:=(bJ hm).2 j z hz
   exact ⟨y,h2⟩
  ·cases e
 ·cases e
theorem N9:∀ {l:List Nat} {x n:Nat},aMb l x = some n->l[n]? = some x
 | [],x,n,e=>by cases e
 | a :: l,x,n,e=>by
  simp only [aMb] at e
  split at e
  ·rename_i hx; cases e; simp [hx]
  ·rw [Option.map_eq_some_iff] at e
   obtain ⟨m,h1,rfl⟩:=e
   simpa using N9 h1
theorem NZ:∀ {l:List Nat} {x:Nat},inN l x = false->∀ n:Nat,l[n]? ≠ some x
 | [],x,_,n=>by simp
 | a :: l,x,e,n=>by
  simp only [inN] at e
  split at e
  ·cases e
  ·rename_i hx
   cases n with
   | zero=>simpa using hx
   | succ n=>simpa using NZ e n
theorem SC:∀ {l:List Nat},WW l = true->∀ {n m x:Nat},l[n]? = some x->l[m]? = some x->n = m
 | [],_,n,m,x,h1,h2=>by simp at h1
 | a :: l,e,n,m,x,h1,h2=>by
  simp only [WW] at e
  split at e
  ·cases e
  ·rename_i hx
   have hx:inN l a = false:=by simpa using hx
   cases n with
   | zero=>cases m with
    | zero=>rfl
    | succ m=>simp at h1 h2; subst h1; exact absurd h2 (NZ hx m)
   | succ n=>cases m with
    | zero=>simp at h1 h2; subst h2; exact absurd h1 (NZ hx n)
    | succ m=>simp at h1 h2; rw [SC e h1 h2]
theorem aLs {site n m:Nat} (e:CM site n = CM site m):n = m:=by unfold CM at e; omega
theorem aG3 (site n:Nat):(CM site n - site) / 100000 - 1 = n:=by
 unfold CM
 rw [Nat.add_sub_cancel_left,Nat.mul_div_cancel_left _ (by decide)]
 omega
theorem RB (site:Nat):∀ (es:List (Nat × Nat)) (rs:List (List (List D))) (k n:Nat) (e size:Nat) (rows:List (List D)),es[n]? = some (e,size)->rs[n]? = some rows->lk (fV site k es rs) none (CM site (k + n)) = some (zS e size rows)
 | [],rs,k,n,e,size,rows,h1,h2=>by simp at h1
 | p :: es,[],k,n,e,size,rows,h1,h2=>by simp at h2
 | (e',s') :: es,r :: rs,k,n,e,size,rows,h1,h2=>by
  simp only [fV,lk]
  cases n with
  | zero=>simp at h1 h2; simp [h1,h2]
  | succ n =>
   rw [if_neg (fun q=>by have:=aLs q; omega),show k + (n + 1) = (k + 1) + n by omega]
   exact RB site es rs (k + 1) n e size rows (by simpa using h1) (by simpa using h2)
theorem FV (site:Nat):∀ (es:List (Nat × Nat)) (rs:List (List (List D))) (k id:Nat) (b:aI),lk (fV site k es rs) none id = some b->∃ n e size rows,id = CM site (k + n) ∧ es[n]? = some (e,size) ∧ rs[n]? = some rows ∧ b = zS e size rows
 | [],rs,k,id,b,h=>by simp [fV,lk] at h
 | p :: es,[],k,id,b,h=>by simp [fV,lk] at h
 | (e',s') :: es,r :: rs,k,id,b,h=>by
  simp only [fV,lk] at h
  split at h
  ·rename_i hi
   cases h
   exact ⟨0,e',s',r,hi,rfl,rfl,rfl⟩
  ·obtain ⟨n,e,size,rows,h1,h2,h3,h4⟩:=FV site es rs (k + 1) id b h
   exact ⟨n + 1,e,size,rows,by rw [h1,show k + 1 + n = k + (n + 1) by omega],by simpa using h2,by simpa using h3,h4⟩
theorem aDG:∀ m:List (Int × ML),aRk (aRP m) = m
 | []=>rfl
 | (k,v) :: r=>by
  have:=aDG r
  unfold aRk aRP at *
  rw [List.map_cons,List.map_cons,this]
  cases v <;> rfl
def C6:aI->Option aI
 | .rows _ e size rows=>if size = 0 then none else some (.rows 0 e size rows)
 | .mp ek m=>some (.mp ek m)
 | _=>none
theorem UP {bl:Nat->Option aI} {id e size:Nat} {rows:List (List D)} (h:aSj bl id = some (e,size)) (h2:aRC bl id = some rows):∃ b,bl id = some b ∧ C6 b = some (zS e size rows):=by
 unfold aSj at h
 unfold aRC at h2
 cases hb:bl id with
 | none=>rw [hb] at h; cases h
 | some b =>
  rw [hb] at h h2
  refine ⟨b,rfl,?_⟩
  cases b <;> simp only at h h2 <;> first | (cases h; done) | skip
  ·split at h
   ·cases h
   ·rename_i hs
    cases h
    cases h2
    simp only [C6,zS,if_neg hs]
  ·cases h
   cases h2
   simp only [C6,zS,if_true,aDG]
section
variable {nt:Nat} {w0:b7} {w:World} {h0 h:Hp} {fr:Nat->V} {bl:Nat->Option aI} {a:Act} {hd hd0:Nat->Value} {nb:Nat->Option aI} {ids:List Nat} {site:Nat}
theorem aEx (r:Rl nt w0 h0 fr bl a w h hd) (hnew:∀ n id b b',ids[n]? = some id->bl id = some b->C6 b = some b'->nb (CM site n) = some b') (hhd:∀ n id,ids[n]? = some id->hd0 (CM site n) = hd id)
  {u:Value} {z:V} (hu:R1 h hd bl u z) {d:D} (e:aFd bl ids z = some d):R1 h hd0 nb u (Y0 site d) ∧ d.atom = true:=by
 cases z with
 | d x =>
  cases e
  obtain ⟨g1,g2⟩:=hu
  refine ⟨?_,g1⟩
  cases d <;> first | exact ⟨g1,g2⟩ | (cases g2; done)
 | nil =>
  cases e
  exact ⟨⟨rfl,by rw [show u = _ from hu]; exact .sl0 none 0 (fun _=>rfl)⟩,rfl⟩
 | own id ver =>
  obtain ⟨b,c,hb,hc,hle,h1,he⟩:=hu
  simp only [aFd,hb] at e
  cases b with
  | rows v e' s rows =>
   simp only at e
   split at e
   ·rename_i hv
    rw [Option.map_eq_some_iff] at e
    obtain ⟨n,hn,rfl⟩:=e
    have hi:=N9 hn
    have hs:¬ s = 0:=by have:=(r.blk id _ hb).1; omega
    refine ⟨⟨_,0,hnew n id _ (.rows 0 e' s rows) hi hb (by simp only [C6,if_neg hs]),rfl,Nat.le_refl _,h1,fun _=>?_⟩,rfl⟩
    rw [hhd n id hi]
    exact he (by simp only [aI.ver?,Option.some.injEq] at hc; omega)
   ·cases e
  | froz v rows =>
   simp only at e
   split at e
   ·rename_i hv
    cases e
    refine ⟨⟨rfl,?_⟩,rfl⟩
    rw [he (by simp only [aI.ver?,Option.some.injEq] at hc; omega)]
    exact r.blk id _ hb
   ·cases e
  | _=>cases e
 | mp id =>
  obtain ⟨⟨b,hb,hbx⟩,rfl,g,hg⟩:=hu
  simp only [aFd,hb] at e
  cases b with
  | mp ek m =>
   simp only at e
   rw [Option.map_eq_some_iff] at e
   obtain ⟨n,hn,rfl⟩:=e
   have hi:=N9 hn
   exact ⟨⟨⟨_,hnew n id _ (.mp ek m) hi hb rfl,rfl⟩,(hhd n id hi).symm,g,(hhd n id hi).trans hg⟩,rfl⟩
  | fmp ek m =>
   simp only [Option.some.injEq] at e
   subst e
   exact ⟨⟨rfl,r.blk id _ hb⟩,rfl⟩
  | _=>cases e
 | _=>cases e
theorem aD5 (r:Rl nt w0 h0 fr bl a w h hd) (hnew:∀ n id b b',ids[n]? = some id->bl id = some b->C6 b = some b'->nb (CM site n) = some b') (hhd:∀ n id,ids[n]? = some id->hd0 (CM site n) = hd id)
  {u:Value} {z:V} (hu:R2 h hd bl u z) {d:D} (e:aEG bl ids z = some d):R2 h hd0 nb u (U1 site d) ∧ d.noTup = true:=by
 have one:R1 h hd bl u z->aFd bl ids z = some d->R2 h hd0 nb u (U1 site d) ∧ d.noTup = true:=fun q1 q2=>by
  obtain ⟨g1,g2⟩:=aEx r hnew hhd q1 q2
  cases d <;> first | (cases g2; done) | exact ⟨R2.of1 g1,rfl⟩
 cases z with
 | agg cs =>
  obtain ⟨arr,rfl,hl,hc⟩:=hu
  simp only [aEG,Option.map_eq_some_iff] at e
  obtain ⟨ds,hm,rfl⟩:=e
  obtain ⟨m1,m2⟩:=bJ hm
  refine ⟨⟨arr,rfl,by simp; omega,fun j x hx=>?_⟩,rfl⟩
  rw [List.getElem?_map,Option.map_eq_some_iff] at hx
  obtain ⟨y,hy,rfl⟩:=hx
  obtain ⟨z,z1,z2⟩:=bY hm hy
  exact ⟨(aEx r hnew hhd (hc j z z1).1 z2).1,(hc j z z1).2⟩
 | _=>exact one hu e
theorem aRR (r:Rl nt w0 h0 fr bl a w h hd) (hnew:∀ n id b b',ids[n]? = some id->bl id = some b->C6 b = some b'->nb (CM site n) = some b') (hhd:∀ n id,ids[n]? = some id->hd0 (CM site n) = hd id)
  {u:Value} {z:V} (hu:R3 h hd bl u z) {d:D} (e:toR bl ids z = some d):R3 h hd0 nb u (thaw site d):=by
 have one:R2 h hd bl u z->aEG bl ids z = some d->R3 h hd0 nb u (thaw site d):=fun q1 q2=>by
  obtain ⟨g1,g2⟩:=aD5 r hnew hhd q1 q2
  cases d <;> first | (cases g2; done) | exact R3.of2 g1
 cases z with
 | tup vs =>
  obtain ⟨arr,rfl,hl,hc⟩:=hu
  simp only [toR,Option.map_eq_some_iff] at e
  obtain ⟨ds,hm,rfl⟩:=e
  obtain ⟨m1,m2⟩:=bJ hm
  refine ⟨arr,rfl,by simp; omega,fun j x hx=>?_⟩
  rw [List.getElem?_map,Option.map_eq_some_iff] at hx
  obtain ⟨y,hy,rfl⟩:=hx
  obtain ⟨z,z1,z2⟩:=bY hm hy
  exact (aD5 r hnew hhd (hc j z z1) z2).1
 | _=>exact one hu e
theorem YX (r:Rl nt w0 h0 fr bl a w h hd) {cv:Value} {v:V} (hv:R3 h hd bl cv v) {x:D} (e:vB bl v = some x):xY w0 w h cv x:=by
 unfold vB at e
 split at e
 ·rename_i hnd
  split at e
  ·rename_i y es rs hy hes hrs
   cases e
   intro site
   generalize hids:NU bl v = ids at hnd hy hes hrs
   have hhd:∀ n id,ids[n]? = some id->(fun i=>hd (ids.getD ((i - site) / 100000 - 1) 0)) (CM site n) = hd id:=fun n id hn=>by
    simp only [aG3,List.getD_eq_getElem?_getD,hn,Option.getD_some]
   have hE:=bJ hes
   have hR:=bJ hrs
   have hnew:∀ n id b b',ids[n]? = some id->bl id = some b->C6 b = some b'->PP site es rs (CM site n) = some b':=fun n id b b' hn hb hg=>by
    obtain ⟨⟨e1,s1⟩,g1,g2⟩:=hE.2 n id hn
    obtain ⟨rows1,g3,g4⟩:=hR.2 n id hn
    obtain ⟨b0,q1,q2⟩:=UP g2 g4
    rw [hb] at q1
    cases q1
    rw [hg] at q2
    cases q2
    have:=RB site es rs 0 n e1 s1 rows1 g1 g3
    rw [Nat.zero_add] at this
    exact this
   have hback:∀ i b,PP site es rs i = some b->∃ n id b0,i = CM site n ∧ ids[n]? = some id ∧ bl id = some b0 ∧ C6 b0 = some b:=fun i b hb=>by
    obtain ⟨n,e,size,rows,h1,h2,h3,h4⟩:=FV site es rs 0 i b hb
    obtain ⟨id,g1,g2⟩:=bY hes h2
    obtain ⟨y2,g4,g5⟩:=hR.2 n id g1
    rw [h3] at g4
    cases g4
    obtain ⟨b0,q1,q2⟩:=UP g2 g5
    exact ⟨n,id,b0,by rw [h1,Nat.zero_add],g1,q1,by rw [q2,h4]⟩
   have hlv:∀ b0 b:aI,C6 b0 = some b->b0.live = true:=fun b0 b hg=>by
    cases b0 <;> first | rfl | (simp [C6] at hg)
   refine ⟨fun i=>hd (ids.getD ((i - site) / 100000 - 1) 0),aRR r hnew hhd hv hy,fun i b hb=>?_,fun i j bi bj g hi hj gi gj=>?_⟩
   ·obtain ⟨n,id,b0,rfl,h2,h3,h4⟩:=hback i b hb
    have hb':=r.blk id _ h3
    have hh:=hhd n id h2
    cases b0 with
    | rows ver e size rows =>
     simp only [C6] at h4
     split at h4
     ·cases h4
     ·cases h4
      obtain ⟨k1,k2,⟨xs,k3,k4⟩,k5⟩:=hb'
      exact ⟨k1,k2,⟨xs,by rw [hh]; exact k3,k4⟩,by rw [hh]; exact k5⟩
    | mp ek m =>
     simp only [C6,Option.some.injEq] at h4
     subst h4
     obtain ⟨g,k1,k2⟩:=hb'
     exact ⟨g,hh.trans k1,k2⟩
    | _=>cases h4
   ·obtain ⟨n,id,b0,rfl,h2,h3,h4⟩:=hback i bi hi
    obtain ⟨m,id',b0',rfl,h2',h3',h4'⟩:=hback j bj hj
    rw [hhd n id h2] at gi
    rw [hhd m id' h2'] at gj
    have:=r.sep id id' _ _ g h3 h3' (hlv _ _ h4) (hlv _ _ h4') gi gj
    subst this
    rw [SC hnd h2 h2']
  ·cases e
 ·cases e
end
def bD (P:Program) (nt:Nat) (c:Code) (sc:aG):Prop:=∀ (C:Nat->List D->Option D),qK P C->∀ (n:Nat) (w0:b7) (h0:Hp) (s s' : St) (ex:Ex) (a:Act) (w:World) (h:Hp) (hd:Nat->Value) (Q:Exit->Act->World->Prop),
 (∀ t,w0.F t = none)->aP C n sc s = some (ex,s')->Rl nt w0 h0 s.get s.blk a w h hd->(∀ a' w' h' hd',Rl nt w0 h0 s'.get s'.blk a' w' h' hd'->Q ex.go a' w')->c.wp P Q a w
def b7.re (b:b7) (w:World) (X:Nat->Prop) (F:Nat->Option Value) (O:Nat->Nat->Value) (M:List Deferred):b7:={ w with L:=fun g=>b.own g ∧ ¬ X g ∧ g < w.heap.size,F:=F,O:=O,M:=M }
section
variable {P:Program} {nt:Nat} {w0:b7} {w w' w2:World} {h0 h h' : Hp} {fr fr' : Nat->V} {bl bl' : Nat->Option aI} {a a' : Act} {hd hd' : Nat->Value} {X:Nat->Prop} {F:Nat->Option Value} {O:Nat->Nat->Value} {M:List Deferred}
theorem tM (hs:w0.heap.size <= w.heap.size) {g:Nat} (h:(w0.re w X F O M).own g):w0.own g:=by
 rcases h with h | h
 ·exact .inl (Nat.le_trans hs h)
 ·exact h.1
theorem XE {g:Nat} (h:w0.own g) (hx:¬ X g):(w0.re w X F O M).own g:=by
 by_cases hg:w.heap.size <= g
 ·exact .inl hg
 ·exact .inr ⟨h,hx,by omega⟩
theorem aKe {g:Nat} (hx:X g) (hg:g < w.heap.size):¬ (w0.re w X F O M).own g:=by
 rintro (h | h)
 ·exact absurd h (Nat.not_le_of_lt hg)
 ·exact h.2.1 hx
theorem Rl.re (r:Rl nt w0 h0 fr bl a w h hd) {row:Option Nat} (hg:w.grownBy w2 row) (hr:∀ g,row = some g->h g = none ∧ X g) (hX:∀ g,X g->∀ id b,bl id = some b->b.live = true->fL (hd id) ≠ some g)
  (hO:∀ id cs,bl id = some (.outer cs)->O id = w0.O id) (hF:∀ t v,F t = some v->a.tmps.getD t undef = v) (hM:a.defers = M):Rl nt (w0.re w2 X F O M) h fr bl a w2 h hd where
 tmps:=r.tmps
 defers:=hM
 fixed:=hF
 below:=AC.refl _ _
 hle:=fun b o e=>by
  have h1:=r.hle b o e
  refine (hg.block b (Array.getElem?_eq_some_iff.1 h1).1 fun q=>?_).trans h1
  rw [(hr b q.symm).1] at e; cases e
 h0le:=Hp.le.refl _
 hbase:=fun _ _=>rfl
 frame:=r.frame
 blk:=fun id b hb=>by
  have rb:=r.blk id b hb
  have hkeep:BR w0 w2 h hd bl id b:=rb.keep (Hp.le.refl _) (Kp.refl _ _) rfl fun hl g hg'=>⟨hg.block g (rb.num hl hg').2.1 fun q=>hX g (hr g q.symm).2 id b hb hl hg',fun q=>q⟩
  cases b with
  | box cs =>
   obtain ⟨g,arr,e,h1,h2,h3⟩:=hkeep
   exact ⟨g,arr,e,h1,XE h2 (fun q=>hX g q id _ hb rfl (by rw [h1]; rfl)),h3⟩
  | rows ver e size rows =>
   obtain ⟨h1,h2,h3,h4⟩:=hkeep
   exact ⟨h1,h2,h3,fun g hg=>⟨(h4 g hg).1,XE (h4 g hg).2 (fun q=>hX g q id _ hb rfl hg)⟩⟩
  | froz ver rows=>exact hkeep
  | fbox cs=>exact hkeep
  | mp ek m =>
   obtain ⟨g,h1,h2,h3⟩:=hkeep
   exact ⟨g,h1,XE h2 (fun q=>hX g q id _ hb rfl (by rw [h1]; rfl)),h3⟩
  | fmp ek m=>exact hkeep
  | outer cs =>
   intro j x hx
   show R3 h hd bl (O id j) x
   rw [hO id cs hb]
   exact hkeep j x hx
 sep:=r.sep
end
def VY (D:Nat):Deferred:={ target:=.collected D,args:=#[] }
def shut (Ds:List Nat) (w:World):World:=Ds.foldl (fun w D=>w.putObj D (.deferred none)) w
structure DJ (w0:b7) (h0:Hp) (b:b7) (hb:Hp):Prop where
 bel:AC w0 w0.toWorld b.toWorld
 le:h0.le hb
 base:∀ g,¬ w0.own g->hb g = h0 g
 own:∀ g,b.own g->w0.own g
structure L4 (w0 b:b7) (hb:Hp) (Ds:List Nat):Prop where
 F:∀ t,b.F t = none
 M:b.M = Ds.map VY ++ w0.M
 nodup:Ds.Nodup
 here:∀ D ∈ Ds,w0.own D ∧ ¬ b.own D ∧ b.heap[D]? = some (.deferred (some [])) ∧ hb D = none
theorem DJ.refl (w0:b7) (h0:Hp):DJ w0 h0 w0 h0:=⟨AC.refl _ _,Hp.le.refl _,fun _ _=>rfl,fun _ h=>h⟩
theorem L4.refl {w0:b7} {h0:Hp} (hF:∀ t,w0.F t = none):L4 w0 w0 h0 []:=⟨hF,rfl,List.Pairwise.nil,fun _ h=>by cases h⟩
theorem DJ.trans {w0 b b2:b7} {h0 hb hb2:Hp} (u:DJ w0 h0 b hb) (v:DJ b hb b2 hb2):DJ w0 h0 b2 hb2 :=
 ⟨u.bel.trans ⟨v.bel.os,v.bel.tape,v.bel.output,v.bel.size,fun k hk=>v.bel.block k fun q=>hk (u.own k q)⟩,u.le.trans v.le,fun g hg=>(v.base g fun q=>hg (u.own g q)).trans (u.base g hg),fun g hg=>u.own g (v.own g hg)⟩
theorem L4.trans {w0 b b2:b7} {h0 hb hb2:Hp} {Ds Es:List Nat} (u:DJ w0 h0 b hb) (v:DJ b hb b2 hb2) (m:L4 w0 b hb Ds) (n:L4 b b2 hb2 Es):L4 w0 b2 hb2 (Es ++ Ds) where
 F:=n.F
 M:=by rw [n.M,m.M,List.map_append,List.append_assoc]
 nodup:=List.nodup_append.2 ⟨n.nodup,m.nodup,fun x hx y hy e=>(m.here y hy).2.1 (e ▸ (n.here x hx).1)⟩
 here:=fun D hD=>by
  rcases List.mem_append.1 hD with q | q
  ·obtain ⟨h1,h2,h3,h4⟩:=n.here D q
   exact ⟨u.own D h1,h2,h3,h4⟩
  ·obtain ⟨h1,h2,h3,h4⟩:=m.here D q
   exact ⟨h1,fun z=>h2 (v.own D z),(v.bel.block D h2).trans h3,(v.base D h2).trans h4⟩
def gY (P:Program) (nt:Nat) (c:Code) (sc:aG):Prop:=∀ (C:Nat->List D->Option D),qK P C->∀ (n:Nat) (w0:b7) (h0:Hp) (s s' : St) (ex:Ex) (a:Act) (w:World) (h:Hp) (hd:Nat->Value) (Q:Exit->Act->World->Prop),
 (∀ t,w0.F t = none)->aP C n sc s = some (ex,s')->Rl nt w0 h0 s.get s.blk a w h hd->(∀ b hb Ds a' w' h' hd',DJ w0 h0 b hb->L4 w0 b hb Ds->Rl nt b hb s'.get s'.blk a' w' h' hd'->Q ex.go a' w')->c.wp P Q a w
theorem bD.to {nt:Nat} {c:Code} {sc:aG} (h:bD P nt c sc):gY P nt c sc :=
 fun C hC n w0 h0 s s' ex a w h' hd Q hF he r hQ=>h C hC n w0 h0 s s' ex a w h' hd Q hF he r fun a' w' h' hd' r'=>hQ w0 h0 [] a' w' h' hd' (DJ.refl _ _) (L4.refl hF) r'
theorem gY.seq {nt:Nat} {c d:Code} {x y:aG} (h1:gY P nt c x) (h2:gY P nt d y):gY P nt (.seq c d) (.seq x y):=by
 intro C hC n w0 h0 s s' ex a w h hd Q hF he r hQ
 refine wp_seq ?_
 simp only [aP] at he
 split at he
 ·rename_i s1 he1
  exact h1 C hC n w0 h0 s s1 .normal a w h hd _ hF he1 r fun b hb Ds a' w' h' hd' u m r'=>h2 C hC n b hb s1 s' ex a' w' h' hd' Q m.F he r' fun b2 hb2 Es a'' w'' h'' hd'' v k r''=>hQ b2 hb2 (Es ++ Ds) a'' w'' h'' hd'' (u.trans v) (L4.trans u v m k) r''
 ·rename_i hne
  refine h1 C hC n w0 h0 s s' ex a w h hd _ hF he r fun b hb Ds a' w' h' hd' u m r'=>?_
  cases ex with
  | normal=>exact absurd he (hne _)
  | exit id=>exact hQ _ _ _ _ _ _ _ u m r'
  | ret=>exact hQ _ _ _ _ _ _ _ u m r'
theorem gY.pre {nt:Nat} {c:Code} {x:aG} (m:tU) (h1:gY P nt c x):gY P nt c (.pre m x):=by
 intro C hC n w0 h0 s s' ex a w h hd Q hF he r hQ
 simp only [aP] at he
 obtain ⟨h',hd',r'⟩:=yD r m
 exact h1 C hC n w0 h0 _ s' ex a w h' hd' Q hF he r' hQ
theorem gY.post {nt:Nat} {c:Code} {x:aG} (m:tU) (h1:gY P nt c x):gY P nt c (.post x m):=by
 intro C hC n w0 h0 s s' ex a w h hd Q hF he r hQ
 simp only [aP] at he
 split at he
 ·rename_i s1 he1
  cases he
  refine h1 C hC n w0 h0 s s1 .normal a w h hd Q hF he1 r fun b hb Ds a' w' h' hd' u k r'=>?_
  obtain ⟨h'',hd'',r''⟩:=yD r' m
  exact hQ _ _ _ _ _ _ _ u k r''
 ·rename_i hne
  exact h1 C hC n w0 h0 s s' ex a w h hd Q hF he r hQ
theorem gY.block {nt:Nat} {c:Code} {x:aG} {id:Nat} (h1:gY P nt c x):gY P nt (.block id c) (.block id x):=by
 intro C hC n w0 h0 s s' ex a w h hd Q hF he r hQ
 refine wp_block ?_
 simp only [aP] at he
 split at he
 ·rename_i id'' s1 he1
  refine h1 C hC n w0 h0 s s1 (.exit id'') a w h hd _ hF he1 r fun b hb Ds a' w' h' hd' u m r'=>?_
  simp only [Ex.go,Exit.inBlock]
  split at he
  ·rename_i hid
   cases he
   rw [if_pos hid]
   exact hQ _ _ _ _ _ _ _ u m r'
  ·rename_i hid
   cases he
   rw [if_neg hid]
   exact hQ _ _ _ _ _ _ _ u m r'
 ·rename_i hne
  refine h1 C hC n w0 h0 s s' ex a w h hd _ hF he r fun b hb Ds a' w' h' hd' u m r'=>?_
  cases ex with
  | normal=>exact hQ _ _ _ _ _ _ _ u m r'
  | exit id=>exact absurd he (hne _ _)
  | ret=>exact hQ _ _ _ _ _ _ _ u m r'
theorem gY.cond {nt:Nat} {co:Operand} {l:bM} {c d:Code} {x y:aG} (hl:gX co = some l) (h1:gY P nt c x) (h2:gY P nt d y):gY P nt (.cond co c d) (.cond l x y):=by
 intro C hC n w0 h0 s s' ex a w h hd Q hF he r hQ
 have hc:=aV r.frame hl
 simp only [aP] at he
 split at he
 ·rename_i hb
  rw [hb] at hc
  exact wp_cond_true (jR hc) (h1 C hC n w0 h0 s s' ex a w h hd Q hF he r hQ)
 ·rename_i hb
  rw [hb] at hc
  exact wp_cond_false (jR hc) (h2 C hC n w0 h0 s s' ex a w h hd Q hF he r hQ)
 ·cases he
theorem Rl.un {nt:Nat} {w0 b:b7} {w:World} {h0 hb h:Hp} {fr:Nat->V} {bl:Nat->Option aI} {a:Act} {hd:Nat->Value} (r:Rl nt b hb fr bl a w h hd) (u:DJ w0 h0 b hb):AC w0 w0.toWorld w ∧ h0.le h ∧ ∀ g,¬ w0.own g->h g = h0 g :=
 ⟨u.bel.trans ⟨r.below.os,r.below.tape,r.below.output,r.below.size,fun k hk=>r.below.block k fun q=>hk (u.own k q)⟩,u.le.trans r.h0le,fun g hg=>(r.hbase g fun q=>hg (u.own g q)).trans (u.base g hg)⟩
theorem xY.within {b0 b1:b7} (hle:∀ g,b1.own g->b0.own g) {w:World} {h:Hp} {v:Value} {x:D} (r:xY b1 w h v x):xY b0 w h v x:=by
 cases x with
 | own y es rs =>
  intro site
  obtain ⟨hd0,h1,h2,h3⟩:=r site
  refine ⟨hd0,h1,fun id b hb=>?_,h3⟩
  refine BR.base hle (.inl ?_) (h2 id b hb)
  obtain ⟨_,_,_,_,_,_,_,q⟩:=FV site es rs 0 id b (by
   have hb':=hb
   unfold PP bP at hb'
   exact hb')
  rw [q]
  unfold zS
  split <;> rfl
 | _=>exact r
theorem PF {F:Fence} {n:Nat} {P:Program} {fn:Func} {tmps:Array Value} {R:Ending->World->Prop}:∀ (Ds:List Nat) (w:World),Ds.Nodup->(∀ D ∈ Ds,w.heap[D]? = some (.deferred (some [])))->(∃ v,(results fn tmps).run P (shut Ds w) = .ok v (shut Ds w) ∧ R (.returned v) (shut Ds w))->LeavesInM F n P fn tmps R (Ds.map VY) .returning w
 | [],w,_,_,h=>h
 | D :: Ds,w,hn,hD,h=>by
  have hn':=List.nodup_cons.1 hn
  refine ⟨by simp,.inl ⟨D,_,rfl,run_takeDeferred (hD D (by simp)),PF Ds _ hn'.2 (fun E hE=>?_) h⟩⟩
  have hne:E ≠ D:=fun e=>hn'.1 (by rw [← e]; exact hE)
  exact (World.putObj_heap_other hne).trans (hD E (by simp [hE]))
theorem Rl.shut {nt:Nat} {w0:b7} {h0:Hp} {fr:Nat->V} {bl:Nat->Option aI} {a:Act} {h:Hp} {hd:Nat->Value}:∀ (Ds:List Nat) (w:World) (b:b7) (hb:Hp),DJ w0 h0 b hb->(∀ D ∈ Ds,w0.own D ∧ ¬ b.own D ∧ h D = none)->Rl nt b hb fr bl a w h hd->∃ b',DJ w0 h0 b' h ∧ Rl nt b' h fr bl a (shut Ds w) h hd
 | [],w,b,hb,u,_,r=>⟨b.re w (fun _=>False) (fun _=>none) b.O a.defers,⟨(r.un u).1,(r.un u).2.1,(r.un u).2.2,fun g q=>u.own g (tM r.below.size q)⟩,r.re (w2:=w) (row:=none) ⟨rfl,rfl,rfl,Nat.le_refl _,fun _ _ _=>rfl⟩ (fun g e=>by cases e) (fun g e=>e.elim) (fun _ _ _=>rfl) (fun t v e=>by cases e) rfl⟩
 | D :: Ds,w,b,hb,u,hD,r=>by
  obtain ⟨d1,d2,d3⟩:=hD D (by simp)
  have hs:b.heap.size <= (w.putObj D (.deferred none)).heap.size:=by rw [World.putObj_size]; exact r.below.size
  have r1:=r.re (w2:=w.putObj D (.deferred none)) (row:=some D) (X:=fun g=>g = D) (F:=fun _=>none) (O:=b.O) (M:=a.defers) ⟨rfl,rfl,rfl,by simp,fun k _ hk=>World.putObj_heap_other (fun e=>hk (by rw [e]))⟩ (fun g e=>by cases e; exact ⟨d3,rfl⟩)
   (fun g e i c hb hl q=>by subst e; exact d2 ((r.blk i c hb).num hl q).1) (fun _ _ _=>rfl) (fun t v e=>by cases e) rfl
  refine Rl.shut Ds _ _ h ⟨?_,(r.un u).2.1,(r.un u).2.2,fun g q=>u.own g (tM hs q)⟩ (fun E hE=>?_) r1
  ·refine (r.un u).1.trans ⟨rfl,rfl,rfl,by simp [b7.re],fun k hk=>World.putObj_heap_other fun e=>hk (e ▸ d1)⟩
  ·obtain ⟨e1,e2,e3⟩:=hD E (by simp [hE])
   exact ⟨e1,fun q=>e2 (tM hs q),e3⟩
def LZ (P:Program) (fn:Func) (sf:dE):Prop :=
 fn.params.size + fn.nfree = sf.np ∧ fn.name ≠ "runtime.NumGoroutine" ∧ fn.ntmps = sf.nt ∧ sf.np <= sf.nt ∧ aK (RO P) fn.results.toList = some sf.results ∧ ∃ c,fn.body = some c ∧ (P.follows .mixedOrders = true->gY P sf.nt c sf.body) ∧ (sf.lend = true->nF P sf.nt c = some sf.body.bare)
theorem bD.low {nt:Nat} {c:Code} {sc:aG} (hm:P.follows .mixedOrders = true) (h:nF P nt c = some sc.bare):bD P nt c sc :=
 fun C hC n w0 h0 s s' ex a w h' hd Q hF he r hQ=>WC hC hm n sc c s s' ex a w h' hd Q (vU.none hF c) h he r hQ
theorem kI.g {fn:Func} {sf:dE} (l:kI P fn sf):LZ P fn sf:=by
 obtain ⟨l1,l2,l3,l4,l5,c,l6,l7⟩:=l
 exact ⟨l1,l2,l3,l4,l5,c,l6,fun hm=>(bD.low hm l7).to,fun _=>l7⟩
theorem bD.seq {nt:Nat} {c d:Code} {x y:aG} (h1:bD P nt c x) (h2:bD P nt d y):bD P nt (.seq c d) (.seq x y):=by
 intro C hC n w0 h0 s s' ex a w h hd Q hF he r hQ
 refine wp_seq ?_
 simp only [aP] at he
 split at he
 ·rename_i s1 he1
  exact h1 C hC n w0 h0 s s1 .normal a w h hd _ hF he1 r fun a' w' h' hd' r'=>h2 C hC n w0 h0 s1 s' ex a' w' h' hd' Q hF he r' hQ
 ·rename_i hne
  refine h1 C hC n w0 h0 s s' ex a w h hd _ hF he r fun a' w' h' hd' r'=>?_
  cases ex with
  | normal=>exact absurd he (hne _)
  | exit id=>exact hQ _ _ _ _ r'
  | ret=>exact hQ _ _ _ _ r'
theorem bD.pre {nt:Nat} {c:Code} {x:aG} (m:tU) (h1:bD P nt c x):bD P nt c (.pre m x):=by
 intro C hC n w0 h0 s s' ex a w h hd Q hF he r hQ
 simp only [aP] at he
 obtain ⟨h',hd',r'⟩:=yD r m
 exact h1 C hC n w0 h0 _ s' ex a w h' hd' Q hF he r' hQ
theorem bD.post {nt:Nat} {c:Code} {x:aG} (m:tU) (h1:bD P nt c x):bD P nt c (.post x m):=by
 intro C hC n w0 h0 s s' ex a w h hd Q hF he r hQ
 simp only [aP] at he
 split at he
 ·rename_i s1 he1
  cases he
  refine h1 C hC n w0 h0 s s1 .normal a w h hd Q hF he1 r fun a' w' h' hd' r'=>?_
  obtain ⟨h'',hd'',r''⟩:=yD r' m
  exact hQ _ _ _ _ r''
 ·rename_i hne
  exact h1 C hC n w0 h0 s s' ex a w h hd Q hF he r hQ
theorem YE {nt t:Nat} {w0:b7} (hF:∀ d,d ≠ t->w0.F d = none):∀ (sc:aG) (c:Code),nF P nt c = some sc.bare->zZ t sc = true->vU w0 c:=by
 intro sc
 induction sc with
 | region ops draw =>
  intro c hl hn
  cases c <;> simp only [nF,aG.bare] at hl
  case region id rops dr =>
   have key:aK (nC P nt rops) rops.toList = some (ops.map aO.bare):=by
    split at hl
    ·cases hl
    ·rename_i l hlow
     rw [hlow]
     split at hl
     ·split at hl
      ·cases hl; rfl
      ·cases hl
     ·cases hl; rfl
   intro o ho d hd
   obtain ⟨i,hi⟩:=List.mem_iff_getElem?.1 ho
   obtain ⟨so,q1,q2⟩:=(bJ key).2 i o hi
   rw [List.getElem?_map,Option.map_eq_some_iff] at q1
   obtain ⟨so',q3,rfl⟩:=q1
   have hdst:so'.dst = o.dst:=by
    unfold nC at q2
    split at q2
    ·split at q2
     ·have:=congrArg (fun z=>z.map aO.dst) q2; simpa [aO.bare] using this.symm
     ·split at q2
      ·have:=congrArg (fun z=>z.map aO.dst) q2; simpa [aO.bare] using this.symm
      ·cases q2
    ·cases q2
   have:=List.all_eq_true.1 hn so' (List.mem_of_getElem? q3)
   rw [hdst,hd] at this
   exact hF d (by simpa using this)
  case seq=>split at hl <;> cases hl
  case cond=>split at hl <;> cases hl
  case block=>rw [Option.map_eq_some_iff] at hl; obtain ⟨_,_,e⟩:=hl; cases e
  case loop=>rw [Option.map_eq_some_iff] at hl; obtain ⟨_,_,e⟩:=hl; cases e
  all_goals cases hl
 | seq x y ihx ihy =>
  intro c hl hn
  simp only [zZ,Bool.and_eq_true] at hn
  cases c <;> simp only [nF,aG.bare] at hl
  case region=>split at hl <;> first | (cases hl; done) | skip; split at hl <;> first | (cases hl; done) | skip; split at hl <;> cases hl
  case seq ca cb =>
   split at hl
   ·rename_i l1 l2 h1 h2
    cases hl
    exact ⟨ihx ca h1 hn.1,ihy cb h2 hn.2⟩
   ·cases hl
  case cond=>split at hl <;> cases hl
  case block=>rw [Option.map_eq_some_iff] at hl; obtain ⟨_,_,e⟩:=hl; cases e
  case loop=>rw [Option.map_eq_some_iff] at hl; obtain ⟨_,_,e⟩:=hl; cases e
  all_goals cases hl
 | cond q x y ihx ihy =>
  intro c hl hn
  simp only [zZ,Bool.and_eq_true] at hn
  cases c <;> simp only [nF,aG.bare] at hl
  case region=>split at hl <;> first | (cases hl; done) | skip; split at hl <;> first | (cases hl; done) | skip; split at hl <;> cases hl
  case seq=>split at hl <;> cases hl
  case cond co ca cb =>
   split at hl
   ·rename_i l0 l1 l2 h1 h2 h3
    cases hl
    exact ⟨ihx ca h2 hn.1,ihy cb h3 hn.2⟩
   ·cases hl
  case block=>rw [Option.map_eq_some_iff] at hl; obtain ⟨_,_,e⟩:=hl; cases e
  case loop=>rw [Option.map_eq_some_iff] at hl; obtain ⟨_,_,e⟩:=hl; cases e
  all_goals cases hl
 | block id x ih =>
  intro c hl hn
  cases c <;> simp only [nF,aG.bare] at hl
  case region=>split at hl <;> first | (cases hl; done) | skip; split at hl <;> first | (cases hl; done) | skip; split at hl <;> cases hl
  case seq=>split at hl <;> cases hl
  case cond=>split at hl <;> cases hl
  case block id' ca=>rw [Option.map_eq_some_iff] at hl; obtain ⟨l1,h1,e⟩:=hl; cases e; exact ih ca h1 hn
  case loop=>rw [Option.map_eq_some_iff] at hl; obtain ⟨_,_,e⟩:=hl; cases e
  all_goals cases hl
 | loop x ih =>
  intro c hl hn
  cases c <;> simp only [nF,aG.bare] at hl
  case region=>split at hl <;> first | (cases hl; done) | skip; split at hl <;> first | (cases hl; done) | skip; split at hl <;> cases hl
  case seq=>split at hl <;> cases hl
  case cond=>split at hl <;> cases hl
  case block=>rw [Option.map_eq_some_iff] at hl; obtain ⟨_,_,e⟩:=hl; cases e
  case loop ca=>rw [Option.map_eq_some_iff] at hl; obtain ⟨l1,h1,e⟩:=hl; cases e; exact ih ca h1 hn
  all_goals cases hl
 | pre m x ih=>intro c hl hn; exact ih c hl hn
 | post x m ih=>intro c hl hn; exact ih c hl hn
 | _ =>
  intro c hl hn
  cases c <;> simp only [nF,aG.bare] at hl
  case region=>split at hl <;> first | (cases hl; done) | skip; split at hl <;> first | (cases hl; done) | skip; split at hl <;> cases hl
  case seq=>split at hl <;> cases hl
  case cond=>split at hl <;> cases hl
  case block=>rw [Option.map_eq_some_iff] at hl; obtain ⟨_,_,e⟩:=hl; cases e
  case loop=>rw [Option.map_eq_some_iff] at hl; obtain ⟨_,_,e⟩:=hl; cases e
  all_goals first | trivial | cases hl
section
variable {h:Hp} {hd:Nat->Value} {bl bl' : Nat->Option aI} {v:Value} {id:Nat} {cs:List V}
theorem R1.drop (ho:bl id = some (.outer cs)) (he:∀ i,i ≠ id->bl' i = bl i):∀ {x:V},R1 h hd bl v x->R1 h hd bl' v x:=by
 intro x r
 cases x with
 | ptr i off =>
  obtain ⟨⟨b,hb,hx⟩,q⟩:=r
  have:i ≠ id:=fun e=>by rw [e,ho] at hb; cases hb; cases hx
  exact ⟨⟨b,by rw [he i this]; exact hb,hx⟩,q⟩
 | own i ver =>
  obtain ⟨b,c,hb,hc,q⟩:=r
  have:i ≠ id:=fun e=>by rw [e,ho] at hb; cases hb; cases hc
  exact ⟨b,c,by rw [he i this]; exact hb,hc,q⟩
 | orow i ver j off =>
  obtain ⟨b,c,hb,hc,q⟩:=r
  have:i ≠ id:=fun e=>by rw [e,ho] at hb; cases hb; cases hc
  exact ⟨b,c,by rw [he i this]; exact hb,hc,q⟩
 | mp i =>
  obtain ⟨⟨b,hb,hx⟩,q⟩:=r
  have:i ≠ id:=fun e=>by rw [e,ho] at hb; cases hb; cases hx
  exact ⟨⟨b,by rw [he i this]; exact hb,hx⟩,q⟩
 | any=>exact r
 | d x=>exact r
 | nil=>exact r
 | agg cs=>exact r
 | tup cs=>exact r
 | fn f caps =>
  obtain ⟨arr,e,hs,hr⟩:=r
  refine ⟨arr,e,hs,fun j x hx=>?_⟩
  have hxr:=hr j x hx
  cases x with
  | ptr i off =>
   obtain ⟨⟨b,hb,hx⟩,q⟩:=hxr
   have:i ≠ id:=fun e=>by rw [e,ho] at hb; cases hb; cases hx
   exact ⟨⟨b,by rw [he i this]; exact hb,hx⟩,q⟩
  | _=>exact hxr.elim
theorem R2.drop (ho:bl id = some (.outer cs)) (he:∀ i,i ≠ id->bl' i = bl i):∀ {x:V},R2 h hd bl v x->R2 h hd bl' v x:=by
 intro x r
 cases x with
 | agg cs =>
  obtain ⟨arr,e,hs,hr⟩:=r
  exact ⟨arr,e,hs,fun j x hx=>⟨(hr j x hx).1.drop ho he,(hr j x hx).2⟩⟩
 | _=>exact R2.of1 (R1.drop ho he r)
theorem R3.drop (ho:bl id = some (.outer cs)) (he:∀ i,i ≠ id->bl' i = bl i):∀ {x:V},R3 h hd bl v x->R3 h hd bl' v x:=by
 intro x r
 cases x with
 | tup cs =>
  obtain ⟨arr,e,hs,hr⟩:=r
  exact ⟨arr,e,hs,fun j x hx=>(hr j x hx).drop ho he⟩
 | _=>exact R3.of2 (R2.drop ho he r)
theorem BR.drop {b0 b1:b7} {w:World} {i:Nat} {b:aI} (hown:∀ g,b1.own g->b0.own g) (hO:b0.O i = b1.O i) (ho:bl id = some (.outer cs)) (he:∀ i,i ≠ id->bl' i = bl i) (r:BR b1 w h hd bl i b):BR b0 w h hd bl' i b:=by
 cases b with
 | box cs =>
  obtain ⟨g,arr,e,h1,h2,h3,h4,h5,h6⟩:=r
  exact ⟨g,arr,e,h1,hown g h2,h3,h4,fun j x hx=>⟨(h5 j x hx).1.drop ho he,(h5 j x hx).2⟩,h6⟩
 | rows ver e size rows =>
  obtain ⟨h1,h2,h3,h4⟩:=r
  exact ⟨h1,h2,h3,fun g hg=>⟨(h4 g hg).1,hown g (h4 g hg).2⟩⟩
 | froz ver rows=>exact r
 | fbox cs=>exact r
 | mp ek m =>
  obtain ⟨g,h1,h2,h3⟩:=r
  exact ⟨g,h1,hown g h2,h3⟩
 | fmp ek m=>exact r
 | outer cs =>
  intro j x hx
  rw [hO]
  exact (r j x hx).drop ho he
end
theorem OH:∀ (l:List V) (i t:Nat),lk (nO i l) .any t = if i <= t then l.getD (t - i) .any else .any
 | [],i,t=>by simp [nO,lk]
 | d :: l,i,t=>by
  simp only [nO,lk,OH l (i + 1) t]
  by_cases e:t = i
  ·subst e; simp
  ·rw [if_neg e]
   by_cases h:i + 1 <= t
   ·rw [if_pos h,if_pos (by omega)]
    have:t - i = (t - (i + 1)) + 1:=by omega
    rw [this,List.getD_cons_succ]
   ·rw [if_neg h,if_neg (by omega)]
theorem aQ9 {C:Nat->List D->Option D} (hC:qK P C) {n nt ix:Nat} {rops:Array Oper} {L:List aO} {dst:Option Nat} {f:Nat} {lop:fU} {ws:List V} {body:aG} {res:List j5} {id:Nat} {slots:List Nat} {fn:Func} {c' : Code}
  (hlow:aK (nC P nt rops) rops.toList = some L) (hLi:L[ix]? = some ⟨dst,lop,none,dst.getD 0⟩) (hfn:P.funcs[f]? = some fn) (l6:fn.body = some c') (l3:ws.length <= fn.ntmps) (l5:aK (RO P) fn.results.toList = some res)
  (hb:bD P fn.ntmps c' body) {w0:b7} {h0:Hp} {s1 s2 s3 s' : St} {ex' : Ex} {a1:Act} {w1:World} {h1:Hp} {hd1:Nat->Value} {Q:Exit->Act->World->Prop} {K:Act->World->Prop}
  (hF:∀ t,w0.F t = none) (r1:Rl nt w0 h0 s1.get s1.blk a1 w1 h1 hd1)
  (hs2:CO ws id slots s1 = some s2) (hev:aP C n body s2 = some (ex',s3)) (hout:lG dst res id slots s3 = some s') (hex:ex' = .normal ∨ ex' = .ret)
  (hop:∀ (o:Oper) (a1:Act) (w1:World) (h1:Hp) (hd1:Nat->Value),xJ P o = lop->Rl nt w0 h0 s1.get s1.blk a1 w1 h1 hd1->∃ vs:Array Value,vs.size = ws.length ∧ (∀ (j:Nat) (y:V),ws[j]? = some y->R3 h1 hd1 s1.blk (vs.getD j undef) y) ∧ (execOp a1.eval o).run P w1 = .ok (.enter f vs) w1)
  (hQ:∀ a' w' h' hd',Rl nt w0 h0 s'.get s'.blk a' w' h' hd'->K a' w'):wpOp P rops Q ix K a1 w1:=by
 have hOF:TA w0 rops:=fun _ _ d _=>hF d
 obtain ⟨o,q1,q2⟩:=bY hlow hLi
 have ho:rops[ix]? = some o:=by simpa using q1
 obtain ⟨g1,g2,g3,g4,g5⟩:=aAa r1 q2 (hOF o (by have:=Array.mem_of_getElem? ho; simpa using this))
 replace g2:dst = o.dst:=g2
 unfold wpOp
 rw [ho]
 simp only
 rw [if_pos (g4 rfl)]
 refine .inl ?_
 obtain ⟨vs,a1s,a2,hexec⟩:=hop o a1 w1 h1 hd1 g1.symm r1
 unfold Oper.wp
 rw [hexec]
 simp only [Oper.upon]
 -- inside
 have hs2' : s1.blk id = none ∧ s2 = ⟨nO 0 ws,(id,some (.outer (slots.map s1.get))) :: s1.bl⟩:=by
  unfold CO at hs2
  split at hs2
  ·rename_i q
   cases hs2
   exact ⟨by simpa using q,rfl⟩
  ·cases hs2
 obtain ⟨hnone,rfl⟩:=hs2'
 have hget:∀ i,i < vs.size->(vs ++ Array.replicate (fn.ntmps - vs.size) undef).getD i undef = vs.getD i undef:=fun i hi=>by
  simp only [Array.getD_eq_getD_getElem?]
  rw [Array.getElem?_append_left hi]
 have hbl:∀ i,(⟨nO 0 ws,(id,some (.outer (slots.map s1.get))) :: s1.bl⟩ : St).blk i = if i = id then some (.outer (slots.map s1.get)) else s1.blk i:=fun i=>rfl
 have hk:Kp hd1 hd1 s1.blk (⟨nO 0 ws,(id,some (.outer (slots.map s1.get))) :: s1.bl⟩ : St).blk:=by
  intro i b hb
  have:i ≠ id:=fun e=>by rw [e,hnone] at hb; cases hb
  exact ⟨b,by rw [hbl,if_neg this]; exact hb,wT.refl _ _ _⟩
 let w0' : b7:={ w0 with M:=[],F:=fun _=>none,O:=fun i j=>if i = id then a1.tmps.getD (slots.getD j 0) undef else w0.O i j }
 have r2:Rl fn.ntmps w0' h0 (⟨nO 0 ws,(id,some (.outer (slots.map s1.get))) :: s1.bl⟩ : St).get (⟨nO 0 ws,(id,some (.outer (slots.map s1.get))) :: s1.bl⟩ : St).blk { tmps:=vs ++ Array.replicate (fn.ntmps - vs.size) undef,defers:=[] } w1 h1 hd1:={
  tmps:=by simp only [Array.size_append,Array.size_replicate]; omega
  defers:=rfl
  fixed:=fun i v hF=>by cases hF
  below:=⟨r1.below.os,r1.below.tape,r1.below.output,r1.below.size,r1.below.block⟩
  hle:=r1.hle
  h0le:=r1.h0le
  hbase:=r1.hbase
  frame:=fun t=>by
   have e1:(⟨nO 0 ws,(id,some (.outer (slots.map s1.get))) :: s1.bl⟩ : St).get t = ws.getD t .any:=by
    have:=OH ws 0 t
    simpa [St.get] using this
   rw [e1]
   cases hy:ws[t]? with
   | none =>
    have:ws.getD t .any = .any:=by simp [List.getD_eq_getElem?_getD,hy]
    rw [this]
    trivial
   | some y =>
    have:ws.getD t .any = y:=by simp [List.getD_eq_getElem?_getD,hy]
    rw [this]
    have hlt:t < vs.size:=by rw [a1s]; exact (List.getElem?_eq_some_iff.1 hy).1
    show R3 _ _ _ (Array.getD (vs ++ Array.replicate (fn.ntmps - vs.size) undef) t undef) _
    rw [hget t hlt]
    exact (a2 t y hy).keep (Hp.le.refl _) hk
  blk:=fun i b hb=>by
   rw [hbl] at hb
   split at hb
   ·rename_i e
    subst e
    cases hb
    intro j x hx
    rw [List.getElem?_map,Option.map_eq_some_iff] at hx
    obtain ⟨t,ht,rfl⟩:=hx
    have:w0'.O i j = a1.tmps.getD t undef:=by
     show (if i = i then a1.tmps.getD (slots.getD j 0) undef else w0.O i j) = _
     rw [if_pos rfl,List.getD_eq_getElem?_getD,ht]
     rfl
    rw [this]
    exact (r1.frame t).keep (Hp.le.refl _) hk
   ·rename_i e
    exact (BR.base (b0:=w0') (b1:=w0) (fun g q=>q) (.inr (by funext j; exact if_neg e)) (r1.blk i b hb)).keep (Hp.le.refl _) hk rfl fun _ _ _=>⟨rfl,fun q=>q⟩
  sep:=fun i j bi bj g hi hj li lj gi gj=>by
   rw [hbl] at hi hj
   split at hi
   ·cases hi; cases li
   ·split at hj
    ·cases hj; cases lj
    ·exact r1.sep i j bi bj g hi hj li lj gi gj }
 have hcalls:Calls P f vs w1 fun en w'=>∃ cv,en = .returned cv ∧ ∃ h' hd',Rl nt w0 h0 s'.get s'.blk (a1.put o.dst cv) w' h' hd':=by
  refine calls_of_wp hfn l6 ?_
  refine hb C hC n w0' h0 _ s3 ex' _ w1 h1 hd1 _ (fun _=>rfl) hev r2 fun a' w' h' hd' r'=>?_
  have back:∀ (cv:Value) (v:V) (cs:List V),s3.blk id = some (.outer cs)->R3 h' hd' s3.blk cv v->s' = ⟨OI dst v ++ slots.zip cs,(id,none) :: s3.bl⟩->Rl nt w0 h0 s'.get s'.blk (a1.put o.dst cv) w' h' hd':=by
   rintro cv v cs ho hv rfl
   have hb4:∀ i,(⟨OI dst v ++ slots.zip cs,(id,none) :: s3.bl⟩ : St).blk i = if i = id then none else s3.blk i:=fun i=>rfl
   have hne:∀ i,i ≠ id->(⟨OI dst v ++ slots.zip cs,(id,none) :: s3.bl⟩ : St).blk i = s3.blk i:=fun i e=>by rw [hb4,if_neg e]
   have hO:=r'.blk id _ ho
   have hzip:∀ t,R3 h' hd' s3.blk (a1.tmps.getD t undef) (lk (slots.zip cs) .any t):=by
    intro t
    rcases zQ (slots.zip cs) .any t with e | ⟨p,hp,e1,e2⟩
    ·rw [e]; trivial
    ·obtain ⟨j,hj⟩:=List.mem_iff_getElem?.1 hp
     rw [List.getElem?_zip_eq_some] at hj
     have:=hO j p.2 hj.2
     have e3:w0'.O id j = a1.tmps.getD t undef:=by
      show (if id = id then a1.tmps.getD (slots.getD j 0) undef else w0.O id j) = _
      rw [if_pos rfl,List.getD_eq_getElem?_getD,hj.1,← e1]
      rfl
     rw [← e2,← e3]
     exact this
   exact {
    tmps:=by cases o.dst <;> simp [Act.put,r1.tmps]
    defers:=by cases o.dst <;> simp [Act.put,r1.defers]
    fixed:=fun t u hq=>by rw [hF t] at hq; cases hq
    below:=⟨r'.below.os,r'.below.tape,r'.below.output,r'.below.size,r'.below.block⟩
    hle:=r'.hle
    h0le:=r'.h0le
    hbase:=r'.hbase
    frame:=fun t=>by
     rw [HW a1 o.dst cv t nt r1.tmps fun d e=>(g3 d e).1]
     refine R3.drop ho hne ?_
     rw [← g2]
     cases dst with
     | none=>rw [if_neg (by intro q; cases q)]; exact hzip t
     | some d =>
      show R3 h' hd' s3.blk _ (lk ((d,v) :: slots.zip cs) .any t)
      simp only [lk]
      by_cases e:t = d
      ·subst e
       rw [if_pos rfl,if_pos rfl]; exact hv
      ·rw [if_neg e,if_neg fun q=>e (Option.some.inj q).symm]; exact hzip t
    blk:=fun i b hb=>by
     rw [hb4] at hb
     split at hb
     ·cases hb
     ·rename_i e
      exact BR.drop (b0:=w0) (b1:=w0') (fun g q=>q) (by funext j; exact (if_neg e).symm) ho hne (r'.blk i b hb)
    sep:=fun i j bi bj g hi hj li lj gi gj=>by
     rw [hb4] at hi hj
     split at hi
     ·cases hi
     ·split at hj
      ·cases hj
      ·exact r'.sep i j bi bj g hi hj li lj gi gj }
  have key:a'.defers = [] ∧ ∃ v,(results fn a'.tmps).run P w' = .ok v w' ∧ ∃ cv,(Ending.returned v) = .returned cv ∧ ∃ h' hd',Rl nt w0 h0 s'.get s'.blk (a1.put o.dst cv) w' h' hd':=by
   refine ⟨r'.defers,?_⟩
   unfold lG at hout
   split at hout
   ·rename_i cs v ho hres
    obtain ⟨cvs,k1,k2,k3⟩:=uV r' fn.results.toList res [v] l5 hres
    match cvs,k2 with
    | [cv],_ =>
     have hv:R3 h' hd' s3.blk cv v:=by simpa using k3 0 v rfl
     have hrun:(results fn a'.tmps).run P w' = .ok cv w':=by
      unfold results
      rw [← Array.toArray_toList (xs:=fn.results),List.mapM_toArray]
      simp only [Sem.run_bind,Sem.run_map]
      erw [k1]
      simp
     exact ⟨cv,hrun,cv,rfl,h',hd',back cv v cs ho hv (Option.some.inj hout).symm⟩
   ·rename_i cs vs hne ho hres
    split at hout
    ·rename_i hall
     obtain ⟨cvs,k1,k2,k3⟩:=uV r' fn.results.toList res vs l5 hres
     have hne1:cvs.length ≠ 1:=by
      intro h1
      rw [k2] at h1
      match vs,h1 with
      | [v],_=>exact hne v rfl
     have hrun:(results fn a'.tmps).run P w' = .ok (.tuple cvs.toArray) w':=by
      unfold results
      rw [← Array.toArray_toList (xs:=fn.results),List.mapM_toArray]
      simp only [Sem.run_bind,Sem.run_map]
      erw [k1]
      simp [hne1]
     have hR:R3 h' hd' s3.blk (.tuple cvs.toArray) (.tup vs):=by
      refine ⟨cvs.toArray,rfl,by simpa using k2,fun j z hz=>?_⟩
      have h3:=k3 j z hz
      have e3:cvs.toArray.getD j undef = cvs.getD j undef:=by simp
      rw [e3]
      have hz':=List.all_eq_true.1 hall z (List.mem_of_getElem? hz)
      cases z <;> first | exact h3 | cases hz'
     exact ⟨_,hrun,_,rfl,h',hd',back _ _ cs ho hR (Option.some.inj hout).symm⟩
    ·cases hout
   ·cases hout
  rcases hex with rfl | rfl
  ·exact key
  ·exact key
 refine hcalls.mono ?_
 rintro en w' ⟨cv,rfl,h',hd',r'⟩
 exact hQ _ _ h' hd' r'
theorem aN2 {C:Nat->List D->Option D} (hC:qK P C) {n nt:Nat} {rops:Array Oper} {ops:List aO} {dst:Option Nat} {f:Nat} {lop:fU} {ws:List V} {body:aG} {res:List j5} {id:Nat} {slots:List Nat} {fn:Func} {c' : Code} {ext:List aO}
  (hlow:aK (nC P nt rops) rops.toList = some (ops.map aO.bare ++ ⟨dst,lop,none,dst.getD 0⟩ :: ext)) (hfn:P.funcs[f]? = some fn) (l6:fn.body = some c') (l3:ws.length <= fn.ntmps) (l5:aK (RO P) fn.results.toList = some res)
  (hb:bD P fn.ntmps c' body) {w0:b7} {h0:Hp} {s s1 s2 s3 s' : St} {ex' : Ex} {a:Act} {w:World} {h:Hp} {hd:Nat->Value} {Q:Exit->Act->World->Prop} {rest:List Nat}
  (hF:∀ t,w0.F t = none) (r:Rl nt w0 h0 s.get s.blk a w h hd)
  (hs1:iP C ops s = some s1) (hs2:CO ws id slots s1 = some s2) (hev:aP C n body s2 = some (ex',s3)) (hout:lG dst res id slots s3 = some s') (hex:ex' = .normal ∨ ex' = .ret)
  (hop:∀ (o:Oper) (a1:Act) (w1:World) (h1:Hp) (hd1:Nat->Value),xJ P o = lop->Rl nt w0 h0 s1.get s1.blk a1 w1 h1 hd1->∃ vs:Array Value,vs.size = ws.length ∧ (∀ (j:Nat) (y:V),ws[j]? = some y->R3 h1 hd1 s1.blk (vs.getD j undef) y) ∧ (execOp a1.eval o).run P w1 = .ok (.enter f vs) w1)
  (hQ:∀ a' w' h' hd',Rl nt w0 h0 s'.get s'.blk a' w' h' hd'->wpOps P rops Q rest a' w'):wpOps P rops Q (List.range ops.length ++ ops.length :: rest) a w:=by
 have hOF:TA w0 rops:=fun _ _ d _=>hF d
 obtain ⟨ps,hps⟩:=HT hs1
 have hst:=nT ops (fun i=>ps.getD i ([],[])) (k:=0) (fun i=>by simp) (fun i _=>by simp) hps
 have e0:(List.range ops.length).map (0 + ·) = List.range ops.length:=by simp
 rw [e0] at hst
 refine NS hC hOF hlow _ (s':=s1.fn) ?_ _ s.fn a w h hd r hst
 intro a1 w1 h1 hd1 r1
 replace r1:Rl nt w0 h0 s1.get s1.blk a1 w1 h1 hd1:=r1
 rw [wpOps_cons]
 exact aQ9 hC hlow (by simp) hfn l6 l3 l5 hb hF r1 hs2 hev hout hex hop hQ
theorem Z4 {C:Nat->List D->Option D} (hC:qK P C) {n nt:Nat} {rops:Array Oper} {ops:List aO} {dst:Option Nat} {f:Nat} {args:List bM} {body:aG} {res:List j5} {id:Nat} {slots:List Nat} {fn:Func} {c' : Code} {ext:List aO}
  (hlow:aK (nC P nt rops) rops.toList = some (ops.map aO.bare ++ ⟨dst,.call f args,none,dst.getD 0⟩ :: ext)) (hfn:P.funcs[f]? = some fn) (l6:fn.body = some c') (l3:args.length <= fn.ntmps) (l5:aK (RO P) fn.results.toList = some res)
  (hb:bD P fn.ntmps c' body) {w0:b7} {h0:Hp} {s s' : St} {ex:Ex} {a:Act} {w:World} {h:Hp} {hd:Nat->Value} {Q:Exit->Act->World->Prop} {rest:List Nat}
  (hF:∀ t,w0.F t = none) (he:aP C n (.inl ops args dst f body res id slots) s = some (ex,s')) (r:Rl nt w0 h0 s.get s.blk a w h hd)
  (hQ:ex = .normal->∀ a' w' h' hd',Rl nt w0 h0 s'.get s'.blk a' w' h' hd'->wpOps P rops Q rest a' w'):wpOps P rops Q (List.range ops.length ++ ops.length :: rest) a w:=by
 simp only [aP] at he
 split at he
 ·cases he
 rename_i s1 hs1
 split at he
 ·cases he
 rename_i s2 hs2
 have hfin:∃ ex' s3,aP C n body s2 = some (ex',s3) ∧ lG dst res id slots s3 = some s' ∧ ex = .normal ∧ (ex' = .normal ∨ ex' = .ret):=by
  split at he
  ·rename_i s3 h3
   obtain ⟨s4,q1,q2⟩:=Option.map_eq_some_iff.1 he
   cases q2
   exact ⟨_,s3,h3,q1,rfl,.inl rfl⟩
  ·rename_i s3 h3
   obtain ⟨s4,q1,q2⟩:=Option.map_eq_some_iff.1 he
   cases q2
   exact ⟨_,s3,h3,q1,rfl,.inr rfl⟩
  ·cases he
 obtain ⟨ex',s3,hev,hout,rfl,hex⟩:=hfin
 have hs2' : CO (args.map (bL s1.get)) id slots s1 = some s2:=hs2
 refine aN2 hC hlow hfn l6 (by simpa using l3) l5 hb hF r hs1 hs2' hev hout hex ?_ (hQ rfl)
 intro o a1 w1 h1 hd1 g1 r1
 obtain ⟨c,fn',hop,hcal,hfn',hl,c1,c2⟩:=LP g1
 rw [hfn] at hfn'
 cases hfn'
 obtain ⟨m1,m2⟩:=bJ hl
 refine ⟨c.args.map a1.eval,by simpa using m1,fun j y hy=>?_,?_⟩
 ·rw [List.getElem?_map,Option.map_eq_some_iff] at hy
  obtain ⟨z,hz,rfl⟩:=hy
  obtain ⟨x,x1,x2⟩:=bY hl hz
  have x1' : c.args[j]? = some x:=by simpa using x1
  have:(c.args.map a1.eval).getD j undef = a1.eval x:=by simp [x1']
  rw [this]
  exact aV r1.frame x2
 ·obtain ⟨bd,hbd⟩:=Option.isSome_iff_exists.1 c2
  have c1' : (fn.name == "runtime.NumGoroutine") = false:=by simpa using c1
  simp [execOp,hop,resolve,hcal,Act.eval,Deferred.ofValue,invoke,callFunc,hfn,c1,hbd]
theorem aCy {nt rid:Nat} {rops:Array Oper} {ops:List aO} {dst:Option Nat} {f:Nat} {args:List bM} {body:aG} {res:List j5} {id:Nat} {slots:List Nat} {fn:Func} {c' : Code}
  (hlow:aK (nC P nt rops) rops.toList = some (ops.map aO.bare ++ [⟨dst,.call f args,none,dst.getD 0⟩])) (hfn:P.funcs[f]? = some fn) (l6:fn.body = some c') (l3:args.length <= fn.ntmps) (l5:aK (RO P) fn.results.toList = some res)
  (hb:bD P fn.ntmps c' body):bD P nt (.region rid rops false) (.inl ops args dst f body res id slots):=by
 intro C hC n w0 h0 s s' ex a w h hd Q hF he r hQ
 have hlen:rops.size = ops.length + 1:=by simpa using (bJ hlow).1
 refine wp_region ?_
 rw [hlen,List.range_succ]
 refine Z4 hC hlow hfn l6 l3 l5 hb hF he r ?_
 rintro rfl a' w' h' hd' r'
 exact hQ _ _ h' hd' r'
theorem aNb {nt rid:Nat} {rops:Array Oper} {ops ops2:List aO} {dst:Option Nat} {f:Nat} {args:List bM} {body:aG} {res:List j5} {id:Nat} {slots:List Nat} {fn:Func} {c' : Code}
  (hlow:aK (nC P nt rops) rops.toList = some (ops.map aO.bare ++ ⟨dst,.call f args,none,dst.getD 0⟩ :: ops2.map aO.bare)) (hfn:P.funcs[f]? = some fn) (l6:fn.body = some c') (l3:args.length <= fn.ntmps) (l5:aK (RO P) fn.results.toList = some res)
  (hb:bD P fn.ntmps c' body):bD P nt (.region rid rops false) (.seq (.inl ops args dst f body res id slots) (.region ops2 none)):=by
 intro C hC n w0 h0 s s' ex a w h hd Q hF he r hQ
 have hlen:rops.size = ops.length + 1 + ops2.length:=by
  have:=(bJ hlow).1
  simp only [List.length_append,List.length_map,List.length_cons] at this
  have h2:rops.toList.length = rops.size:=rfl
  omega
 refine wp_region ?_
 have hL:List.range rops.size = List.range ops.length ++ ops.length :: (List.range ops2.length).map (ops.length + 1 + ·):=by
  rw [hlen,List.range_add,List.range_succ,List.append_assoc]
  rfl
 rw [hL]
 rw [aP] at he
 have hinl:∀ e1 s1,aP C n (.inl ops args dst f body res id slots) s = some (e1,s1)->e1 = .normal:=fun e1 s1 q=>by
  simp only [aP] at q
  split at q
  ·cases q
  split at q
  ·cases q
  split at q
  ·obtain ⟨s4,q1,q2⟩:=Option.map_eq_some_iff.1 q; cases q2; rfl
  ·obtain ⟨s4,q1,q2⟩:=Option.map_eq_some_iff.1 q; cases q2; rfl
  ·cases q
 cases hi:aP C n (.inl ops args dst f body res id slots) s with
 | none=>rw [hi] at he; cases he
 | some p =>
  obtain ⟨e1,s1⟩:=p
  obtain rfl:=hinl e1 s1 hi
  rw [hi] at he
  simp only [aP] at he
  split at he
  ·rename_i s2 hs2
   cases he
   refine Z4 hC hlow hfn l6 l3 l5 hb hF hi r ?_
   intro _ a' w' h' hd' r'
   obtain ⟨ps,hps⟩:=HT (show iP C ops2 s1 = some s' from hs2)
   have hlow' : aK (nC P nt rops) rops.toList = some ((ops ++ ⟨dst,.call f args,none,dst.getD 0⟩ :: ops2).map aO.bare ++ []):=by
    rw [hlow,List.append_nil,List.map_append,List.map_cons]
    rfl
   have hst:=nT (ops ++ ⟨dst,.call f args,none,dst.getD 0⟩ :: ops2) (fun i=>ps.getD (i - (ops.length + 1)) ([],[])) (k:=ops.length + 1) (fun i=>by
    rw [List.getElem?_append_right (by omega),show ops.length + 1 + i - ops.length = i + 1 by omega,List.getElem?_cons_succ]) (fun i _=>by rw [Nat.add_sub_cancel_left]) hps
   have hfin:=NS hC (fun _ _ d _=>hF d:TA w0 rops) hlow' _ (s':=s'.fn) (rest:=[]) (Q:=Q) (fun a2 w2 h2 hd2 r2=>(hQ a2 w2 h2 hd2 r2:wpOps P rops Q [] a2 w2)) _ s1.fn a' w' h' hd' r' hst
   rw [List.append_nil] at hfin
   exact hfin
  ·cases he
theorem aEc {C:Nat->List D->Option D} (hC:qK P C) (hm:P.follows .mixedOrders = true) {n f t:Nat} {fn:Func} {sf:dE} {c:Code} {ds:List D} {x:D} {ex:Ex} {s:St} (hfn:P.funcs[f]? = some fn) (l2:fn.name ≠ "runtime.NumGoroutine") (l3:fn.ntmps = sf.nt) (l4:sf.np <= sf.nt)
  (l5:aK (RO P) fn.results.toList = some sf.results) (l6:fn.body = some c) (l7:nF P sf.nt c = some sf.body.bare) (hnp:ds.length = sf.np) (hnd:zZ t sf.body = true)
  (hev:aP C n sf.body (BK t ds) = some (ex,s)) (hfs:yF sf s t = some x) (hex:ex = .normal ∨ ex = .ret):WU P f ds t x:=by
 refine ⟨⟨fn,hfn,l2,by rw [l6]; rfl⟩,?_⟩
 intro e size rows rows' y hdt hx w h vs hle hvs hrd hlent
 refine calls_of_wp hfn l6 ?_
 generalize hvt:vs.getD t undef = vt at hlent ⊢
 have hvsz:vs.size = sf.np:=by omega
 have htd:t < ds.length:=(List.getElem?_eq_some_iff.1 hdt).1
 have htv:t < vs.size:=by omega
 have hini:BK t ds = ⟨(t,.own 900000 0) :: nV 0 ds,[(900000,some (.rows 0 e size rows))]⟩:=by
  unfold BK
  rw [hdt]
  rfl
 obtain ⟨e1,e2,⟨xs,e3,e4⟩,e5⟩:=hlent
 have hget:∀ i,i < vs.size->(vs ++ Array.replicate (fn.ntmps - vs.size) undef).getD i undef = vs.getD i undef:=fun i hi=>by
  simp only [Array.getD_eq_getD_getElem?]
  rw [Array.getElem?_append_left hi]
 have hbl:∀ id b,(BK t ds).blk id = some b->id = 900000 ∧ b = .rows 0 e size rows:=fun id b hb=>by
  rw [hini] at hb
  simp only [St.blk,lk] at hb
  split at hb
  ·rename_i q; cases hb; exact ⟨q,rfl⟩
  ·cases hb
 have hbl0:(BK t ds).blk 900000 = some (.rows 0 e size rows):=by rw [hini]; simp [St.blk,lk]
 have r0:Rl sf.nt (b7.lent w t (vt)) h (BK t ds).get (BK t ds).blk { tmps:=vs ++ Array.replicate (fn.ntmps - vs.size) undef,defers:=[] } w h (fun _=>vt):={
  tmps:=by simp; omega
  defers:=rfl
  fixed:=fun i v hF=>by
   simp only [b7.lent] at hF
   split at hF
   ·rename_i q; cases hF; subst q; exact (hget _ htv).trans hvt
   ·cases hF
  below:=AC.refl _ _
  hle:=hle
  h0le:=Hp.le.refl _
  hbase:=fun _ _=>rfl
  frame:=fun i=>by
   have q1:(BK t ds).get i = if i = t then .own 900000 0 else (match ds[i]? with | some d=>aKf d | none=>.any):=by
    rw [hini]
    simp only [St.get,lk]
    split
    ·rfl
    ·have:=LB ds 0 i
     simpa using this
   rw [q1]
   split
   ·rename_i q
    subst q
    rw [hget _ htv,hvt]
    exact ⟨_,0,hbl0,rfl,Nat.le_refl _,e3.one,fun _=>rfl⟩
   ·rename_i hne
    cases hd:ds[i]? with
    | none=>trivial
    | some d =>
     have hlt:i < vs.size:=by rw [hvs]; exact (List.getElem?_eq_some_iff.1 hd).1
     simp only [hget i hlt]
     exact aEg (hrd i d hne hd)
  blk:=fun id b hb=>by
   obtain ⟨_,rfl⟩:=hbl id b hb
   exact ⟨e1,e2,⟨xs,e3,e4⟩,fun g hg=>⟨e5 g hg,.inr hg⟩⟩
  sep:=fun i j bi bj g hi hj _ _ _ _=>by rw [(hbl i bi hi).1,(hbl j bj hj).1] }
 refine WC hC hm n sf.body c _ s ex _ w h _ _ (YE (fun d hd=>by simp [b7.lent,hd]) sf.body c l7 hnd) l7 hev r0 fun a' w' h' hd' r'=>?_
 have key:a'.defers = [] ∧ ∃ v,(results fn a'.tmps).run P w' = .ok v w' ∧ ∃ v' h'',(Ending.returned v) = .returned v' ∧ aT h'' v' y ∧ ZO w' h'' (vt) e size rows' ∧ h.le h'' ∧ h''.le (hw w') ∧ AC (b7.lent w t (vt)) w w':=by
  refine ⟨r'.defers,?_⟩
  unfold yF at hfs
  split at hfs
  ·rename_i id ver hst
   split at hfs
   ·rename_i vv e' size' rows'' hb
    split at hfs
    ·rename_i hv
     subst hv
     have hslot:hd' id = vt:=by
      have h3:=r'.frame t
      rw [hst] at h3
      obtain ⟨b,cc,g1,g2,g3,g4,g5⟩ : ∃ b c',s.blk id = some b ∧ b.ver? = some c' ∧ ver <= c' ∧ _ ∧ (ver = c'->_ = hd' id):=h3
      rw [hb] at g1
      cases g1
      simp only [aI.ver?,Option.some.injEq] at g2
      rw [← g5 g2]
      exact r'.fixed t _ (by simp [b7.lent])
     have hLR:ZO w' h' (vt) e' size' rows'':=by
      obtain ⟨k1,k2,k3,k4⟩:=r'.blk id _ hb
      rw [hslot] at k3 k4
      exact ⟨k1,k2,k3,fun g hg=>(k4 g hg).1⟩
     split at hfs
     ·cases hfs
     ·rename_i u hres
      split at hfs
      ·rename_i y' hy
       split at hfs
       ·rename_i hfl
        rw [hx] at hfs
        simp only [Option.some.injEq,D.own.injEq,List.cons.injEq,Prod.mk.injEq,and_true] at hfs
        obtain ⟨rfl,⟨rfl,rfl⟩,rfl⟩:=hfs
        obtain ⟨cvs,g1,g2,g3⟩:=uV r' fn.results.toList sf.results [u] l5 hres
        match cvs,g2 with
        | [cv],_ =>
         have hv:R3 h' hd' s.blk cv u:=by simpa using g3 0 u rfl
         have hrun:(results fn a'.tmps).run P w' = .ok cv w':=by
          unfold results
          rw [← Array.toArray_toList (xs:=fn.results),List.mapM_toArray]
          simp only [Sem.run_bind,Sem.run_map]
          erw [g1]
          simp
         have hrd:aT (GO w' h' hd' (vX s.blk u)) cv y':=oD r' _ (by cases u <;> first | exact hv | cases hy) hy (fun p hp=>hp)
         exact ⟨cv,hrun,cv,h',rfl,BG hrd hfl h',hLR,r'.h0le,r'.hle,r'.below⟩
       ·cases hfs
      ·cases hfs
     ·rename_i us hne hres
      split at hfs
      ·rename_i y' hy
       split at hfs
       ·rename_i hfl
        rw [hx] at hfs
        simp only [Option.some.injEq,D.own.injEq,List.cons.injEq,Prod.mk.injEq,and_true] at hfs
        obtain ⟨rfl,⟨rfl,rfl⟩,rfl⟩:=hfs
        obtain ⟨cvs,g1,g2,g3⟩:=uV r' fn.results.toList sf.results us l5 hres
        have hne1:cvs.length ≠ 1:=by
         intro h1
         rw [g2] at h1
         match us,h1 with
         | [v],_=>exact hne v rfl
        have hrun:(results fn a'.tmps).run P w' = .ok (.tuple cvs.toArray) w':=by
         unfold results
         rw [← Array.toArray_toList (xs:=fn.results),List.mapM_toArray]
         simp only [Sem.run_bind,Sem.run_map]
         erw [g1]
         simp [hne1]
        have hR:R3 h' hd' s.blk (.tuple cvs.toArray) (.tup us):=by
         simp only [toD] at hy
         cases hm2:aK (iY s.blk) us with
         | none=>simp [hm2] at hy
         | some ys =>
          refine ⟨cvs.toArray,rfl,by simpa using g2,fun j z hz=>?_⟩
          have h3:=g3 j z hz
          have e3:cvs.toArray.getD j undef = cvs.getD j undef:=by simp
          rw [e3]
          obtain ⟨y,y1,y2⟩:=(bJ hm2).2 j z hz
          cases z <;> first | exact h3 | cases y2
        have hrd:=aL3 r' (us.flatMap (vX s.blk)) hR hy (fun p hp=>hp)
        exact ⟨_,hrun,_,h',rfl,BG hrd hfl h',hLR,r'.h0le,r'.hle,r'.below⟩
       ·cases hfs
      ·cases hfs
    ·cases hfs
   ·cases hfs
  ·cases hfs
 rcases hex with rfl | rfl
 ·exact key
 ·exact key
def aDi (P:Program) (f:Nat):Def->Prop
 | .code _=>True
 | .told o=>∀ ds x,o ds = some x->CF P f ds x
 | .toldL o=>∀ ds x t,o ds = some x->jH 0 ds = some t->WU P f ds t x
theorem QA (T:wE) (hT:∀ f sf,T f = some (.code sf)->∃ fn,P.funcs[f]? = some fn ∧ LZ P fn sf) (hO:∀ f d,T f = some d->aDi P f d) (hm:P.follows .mixedOrders = true):∀ (n f:Nat) (ds:List D) (x:D),iV T n f ds = some x->(jH 0 ds = none->CF P f ds x) ∧ ∀ t,jH 0 ds = some t->WU P f ds t x
 | 0,f,ds,x,e=>by cases e
 | n + 1,f,ds,x,e=>by
  simp only [iV] at e
  split at e
  ·cases e
  ·rename_i o ho
   split at e
   ·rename_i hl
    exact ⟨fun _=>hO f (.told o) ho ds x e,fun t ht=>(by rw [hl] at ht; cases ht)⟩
   ·cases e
  ·rename_i o ho
   split at e
   ·rename_i hl
    exact ⟨fun q=>(by rw [q] at hl; cases hl),fun t ht=>hO f (.toldL o) ho ds x t e ht⟩
   ·cases e
  ·rename_i sf hsf
   split at e
   ·rename_i hnp
    obtain ⟨fn,hfn,l1,l2,l3,l4,l5,c,l6,l7,l8⟩:=hT f sf hsf
    cases hla:jH 0 ds with
    | some t =>
     rw [hla] at e
     simp only at e
     refine ⟨fun q=>(by cases q),fun t' ht=>?_⟩
     cases ht
     split at e
     ·rename_i hq
      split at e
      ·rename_i s hs; exact aEc (QA T hT hO hm n) hm hfn l2 l3 l4 l5 l6 (l8 hq.1) hnp hq.2 hs e (.inl rfl)
      ·rename_i s hs; exact aEc (QA T hT hO hm n) hm hfn l2 l3 l4 l5 l6 (l8 hq.1) hnp hq.2 hs e (.inr rfl)
      ·cases e
     ·cases e
    | none =>
    rw [hla] at e
    simp only at e
    refine ⟨fun _=>?_,fun t ht=>(by cases ht)⟩
    have hfin:∃ ex s,aP (iV T n) n sf.body ⟨nV 0 ds,[]⟩ = some (ex,s) ∧ HM sf s = some x ∧ (ex = .normal ∨ ex = .ret):=by
     split at e
     ·rename_i s hs; exact ⟨_,s,hs,e,.inl rfl⟩
     ·rename_i s hs; exact ⟨_,s,hs,e,.inr rfl⟩
     ·cases e
    obtain ⟨ex,s,hev,hfs,hex⟩:=hfin
    refine ⟨⟨fn,hfn,l2,by rw [l6]; rfl⟩,?_⟩
    intro w h vs hle hvs hrd
    refine (callsIn_wide (n:=0)).1 (callsIn_of_wp_marks hfn l6 trivial ?_)
    refine wpIn_wide.2 ?_
    have hvsz:vs.size = sf.np:=by omega
    have r0:Rl sf.nt (b7.of w) h (⟨nV 0 ds,[]⟩ : St).get (⟨nV 0 ds,[]⟩ : St).blk { tmps:=vs ++ Array.replicate (fn.ntmps - vs.size) undef,defers:=[] } w h (fun _=>undef):={
     tmps:=by simp; omega
     defers:=rfl
     fixed:=fun i v hF=>by cases hF
     below:=AC.refl _ _
     hle:=hle
     h0le:=Hp.le.refl _
     hbase:=fun _ _=>rfl
     frame:=fun t=>by
      have e1:(⟨nV 0 ds,[]⟩ : St).get t = (match ds[t]? with | some d=>aKf d | none=>.any):=by
       have:=LB ds 0 t
       simpa [St.get] using this
      rw [e1]
      cases hd:ds[t]? with
      | none=>trivial
      | some d =>
       have hlt:t < vs.size:=by rw [hvs]; exact (List.getElem?_eq_some_iff.1 hd).1
       have e2:(vs ++ Array.replicate (fn.ntmps - vs.size) undef).getD t undef = vs.getD t undef:=by
        simp only [Array.getD_eq_getD_getElem?]
        rw [Array.getElem?_append_left hlt]
       simp only [e2]
       exact aEg (hrd t d hd)
     blk:=fun id b hb=>by simp [St.blk,lk] at hb
     sep:=fun i j bi bj g hi=>by simp [St.blk,lk] at hi }
    refine l7 hm _ (QA T hT hO hm n) n _ _ _ s ex _ w h _ _ (fun _=>rfl) hev r0 fun b hb Ds a' w1' h' hd' u m r1'=>?_
    have hD:∀ D ∈ Ds,(b7.of w).own D ∧ ¬ b.own D ∧ h' D = none:=fun D hD=>⟨(m.here D hD).1,(m.here D hD).2.1,(r1'.hbase D (m.here D hD).2.1).trans (m.here D hD).2.2.2⟩
    obtain ⟨b',u',r'⟩:=Rl.shut Ds w1' b hb u hD r1'
    have hbe:=r'.un u'
    generalize hsh:shut Ds w1' = w' at r' hbe
    have hbase:∀ b,b < w.heap.size->h' b = h b:=fun b hb=>hbe.2.2 b fun q=>by have:=b7.own_of q; omega
    have hnot:∀ b,b < w.heap.size->¬ (b7.of w).own b:=fun b hb q=>by have:=b7.own_of q; omega
    have hbelow:=hbe.1.below
    have hle0:h.le h':=hbe.2.1
    have key:∃ v,(results fn a'.tmps).run P w' = .ok v w' ∧ ∃ v' h'',(Ending.returned v) = .returned v' ∧ xY (b7.of w) w' h'' v' x ∧ h.le h'' ∧ h''.le (hw w') ∧ (∀ b,b < w.heap.size->h'' b = h b) ∧ Below w.heap.size w w':=by
     unfold HM at hfs
     split at hfs
     ·cases hfs
     ·rename_i v hres
      obtain ⟨cvs,g1,g2,g3⟩:=uV r' fn.results.toList sf.results [v] l5 hres
      match cvs,g2 with
      | [cv],_ =>
       have hv:R3 h' hd' s.blk cv v:=by simpa using g3 0 v rfl
       have hrun:(results fn a'.tmps).run P w' = .ok cv w':=by
        unfold results
        rw [← Array.toArray_toList (xs:=fn.results),List.mapM_toArray]
        simp only [Sem.run_bind,Sem.run_map]
        erw [g1]
        simp
       split at hfs
       ·exact ⟨cv,hrun,cv,h',rfl,xY.within u'.own (YX r' hv hfs),hle0,r'.hle,hbase,hbelow⟩
       have hrd:aT (GO w' h' hd' (vX s.blk v)) cv x:=oD r' _ (by cases v <;> first | exact hv | cases hfs) hfs (fun p hp=>hp)
       exact ⟨cv,hrun,cv,GO w' h' hd' (vX s.blk v),rfl,hrd.toF,hle0.trans (yA r' _),LL r' _,fun b hb=>(Q4 r' _ (aCN v) b fun q=>hnot b hb (u'.own b q)).trans (hbase b hb),hbelow⟩
     ·rename_i vs' hne hres
      obtain ⟨cvs,g1,g2,g3⟩:=uV r' fn.results.toList sf.results vs' l5 hres
      have hne1:cvs.length ≠ 1:=by
       intro h1
       rw [g2] at h1
       match vs',h1 with
       | [v],_=>exact hne v rfl
      have hrun:(results fn a'.tmps).run P w' = .ok (.tuple cvs.toArray) w':=by
       unfold results
       rw [← Array.toArray_toList (xs:=fn.results),List.mapM_toArray]
       simp only [Sem.run_bind,Sem.run_map]
       erw [g1]
       simp [hne1]
      split at hfs
      ·rename_i hfr
       have hR:R3 h' hd' s.blk (.tuple cvs.toArray) (.tup vs'):=by
        refine ⟨cvs.toArray,rfl,by simpa using g2,fun j z hz=>?_⟩
        have h3:=g3 j z hz
        have e3:cvs.toArray.getD j undef = cvs.getD j undef:=by simp
        rw [e3]
        obtain ⟨y,hy⟩:=aAV hfs hz
        cases z <;> first | exact h3 | cases hy
       exact ⟨_,hrun,_,h',rfl,xY.within u'.own (YX r' hR hfs),hle0,r'.hle,hbase,hbelow⟩
      have hR:R3 h' hd' s.blk (.tuple cvs.toArray) (.tup vs'):=by
       simp only [toD] at hfs
       cases hm2:aK (iY s.blk) vs' with
       | none=>simp [hm2] at hfs
       | some ys =>
        refine ⟨cvs.toArray,rfl,by simpa using g2,fun j z hz=>?_⟩
        have h3:=g3 j z hz
        have e3:cvs.toArray.getD j undef = cvs.getD j undef:=by simp
        rw [e3]
        obtain ⟨y,y1,y2⟩:=(bJ hm2).2 j z hz
        cases z <;> first | exact h3 | cases y2
      refine ⟨_,hrun,_,GO w' h' hd' (vs'.flatMap (vX s.blk)),rfl,(aL3 r' _ hR hfs (fun p hp=>hp)).toF,hle0.trans (yA r' _),LL r' _,fun b hb=>(Q4 r' _ ?_ b fun q=>hnot b hb (u'.own b q)).trans (hbase b hb),hbelow⟩
      exact uT.flatMap vs' fun z=>z
    have post:LeavesInM Fence.wide 0 P fn a'.tmps (fun en w'=>∃ v' h'',en = .returned v' ∧ xY (b7.of w) w' h'' v' x ∧ h.le h'' ∧ h''.le (hw w') ∧ (∀ b,b < w.heap.size->h'' b = h b) ∧ Below w.heap.size w w') a'.defers .returning w1':=by
     rw [show a'.defers = Ds.map VY from by rw [r1'.defers,m.M]; exact List.append_nil _]
     refine PF Ds w1' m.nodup (fun D q=>(r1'.below.block D (m.here D q).2.1).trans (m.here D q).2.2.1) ?_
     rw [hsh]
     exact key
    rcases hex with rfl | rfl
    ·exact post
    ·exact post
   ·cases e
end
end Vm
end Go.Proofs.Ytgjcnbgfaimepaa
namespace Go.Proofs.Ytgjcnbgfaimepaa
namespace Vm
open Go.RowKit
section
variable {P:Program} {nt:Nat} {w0:b7} {h0:Hp}
theorem xD.wide {C:Nat->List D->Option D} {l L:List aO} {fp fq:Nat->Fp}:∀ {M:List Nat} {s s' : Fn},(∀ i ∈ M,l[i]? = L[i]? ∧ fp i = fq i)->xD C l fp M s s'->xD C L fq M s s'
 | [],s,s',_,h=>h
 | i :: M,s,s',hi,⟨o,s1,g1,g2,g3⟩=>by
  obtain ⟨e1,e2⟩:=hi i (by simp)
  exact ⟨o,s1,e1 ▸ g1,e2 ▸ g2,xD.wide (fun k hk=>hi k (by simp [hk])) g3⟩
end
end Vm
end Go.Proofs.Ytgjcnbgfaimepaa
namespace Go.Proofs.Ytgjcnbgfaimepaa
namespace Vm
open Go.RowKit
noncomputable def lim {α:Type} (g:Nat->Option α):Option α:=@dite _ (∃ n x,g n = some x) (Classical.propDecidable _) (fun h=>some h.choose_spec.choose) (fun _=>none)
def aUn {α:Type} (g:Nat->Option α):Prop:=∀ n m x,n <= m->g n = some x->g m = some x
theorem XD {α:Type} {g:Nat->Option α} (hg:aUn g) {x:α}:lim g = some x ↔ ∃ n,g n = some x:=by
 unfold lim
 split
 ·rename_i h
  have hs:=h.choose_spec.choose_spec
  constructor
  ·intro e; cases e; exact ⟨_,hs⟩
  ·rintro ⟨n,hn⟩
   have h1:=hg _ (max h.choose n) _ (Nat.le_max_left _ _) hs
   have h2:=hg _ (max h.choose n) _ (Nat.le_max_right _ _) hn
   rw [h1] at h2
   exact h2
 ·rename_i h
  constructor
  ·intro e; cases e
  ·rintro ⟨n,hn⟩; exact absurd ⟨n,x,hn⟩ h
theorem rJ {α:Type} {a b:Option α} (h:∀ x,a = some x ↔ b = some x):a = b:=by
 cases a with
 | none=>cases b with
  | none=>rfl
  | some y=>have:=(h y).2 rfl; cases this
 | some x=>exact ((h x).1 rfl).symm
def CLe (C D:Nat->List Vm.D->Option Vm.D):Prop:=∀ f ds x,C f ds = some x->D f ds = some x
section
variable {C C' : Nat->List D->Option D}
theorem aIs (hc:CLe C C') {site:Nat} {ev:bM->V} {bl:Nat->Option aI} {so:fU} {r:V × List (Nat × Option aI)} (e:cJ C site ev bl so = some r):cJ C' site ev bl so = some r:=by
 cases so with
 | call f args =>
  simp only [cJ] at e ⊢
  split at e
  ·cases e
  ·split at e
   ·cases e
   ·rename_i x hx
    rw [hc _ _ _ hx]
    exact e
 | callv g args =>
  simp only [cJ] at e ⊢
  split at e
  ·split at e
   ·cases e
   ·split at e
    ·cases e
    ·rename_i x hx
     rw [hc _ _ _ hx]
     exact e
  ·cases e
 | calln f args =>
  simp only [cJ] at e ⊢
  split at e
  ·cases e
  ·split at e
   ·rename_i hx
    rw [hc _ _ _ hx]
    exact e
   ·cases e
 | lend f args t =>
  simp only [cJ] at e ⊢
  split at e
  ·split at e
   ·cases e
   ·split at e
    ·rename_i hn
     rw [if_pos hn]
     split at e
     ·rename_i hx
      rw [hc _ _ _ hx]
      exact e
     ·cases e
    ·cases e
  ·cases e
 | _=>exact e
theorem O4 (hc:CLe C C') {o:aO} {s:St} {r:St × Fp} (e:jI C o s = some r):jI C' o s = some r:=by
 unfold jI at e ⊢
 split at e
 ·split at e
  ·rename_i v wr ha
   rw [aIs hc ha]; exact e
  ·cases e
 ·exact e
 ·cases e
theorem AG (hc:CLe C C'):∀ {l:List aO} {s:St} {r:St × List Fp},jD C l s = some r->jD C' l s = some r
 | [],s,r,e=>e
 | o :: l,s,r,e=>by
  simp only [jD] at e ⊢
  split at e
  ·rename_i s' p h1
   rw [O4 hc h1]
   split at e
   ·rename_i s'' ps h2
    simp only [AG hc h2]
    exact e
   ·cases e
  ·cases e
theorem aGA (o:aO) (s:St):yP C o s = (jI C o s).map (·.1):=by
 unfold yP jI
 cases o.wants s.get with
 | run =>
  simp only
  cases cJ C o.site (bL s.get) s.blk o.op with
  | none=>rfl
  | some r=>rfl
 | skip=>rfl
 | bad=>rfl
theorem LO:∀ (l:List aO) (s:St),iP C l s = (jD C l s).map (·.1)
 | [],s=>rfl
 | o :: l,s=>by
  simp only [iP,jD,aGA]
  cases jI C o s with
  | none=>rfl
  | some r =>
   obtain ⟨s',p⟩:=r
   simp only [Option.map_some,LO l s']
   cases jD C l s' with
   | none=>rfl
   | some q=>rfl
theorem kC (hc:CLe C C') {l:List aO} {d:Option (List (Nat × Nat))} {s s' : St} (e:fT C l d s = some s'):fT C' l d s = some s':=by
 cases d with
 | none =>
  simp only [fT,LO,Option.map_eq_some_iff] at e ⊢
  obtain ⟨r,h1,h2⟩:=e
  exact ⟨r,AG hc h1,h2⟩
 | some ps =>
  simp only [fT] at e ⊢
  split at e
  ·rename_i h1
   rw [AG hc h1]; exact e
  ·cases e
theorem FB {f g:St->Option (Ex × St)} (h:∀ s r,f s = some r->g s = some r):∀ {n m:Nat} {s:St} {r:Ex × St},n <= m->qT f n s = some r->qT g m s = some r
 | 0,m,s,r,_,e=>by cases e
 | n + 1,0,s,r,hle,e=>by omega
 | n + 1,m + 1,s,r,hle,e=>by
  simp only [qT] at e ⊢
  cases hf:f s with
  | none=>rw [hf] at e; cases e
  | some q =>
   obtain ⟨ex,s'⟩:=q
   rw [hf] at e
   rw [h s _ hf]
   cases ex with
   | normal=>exact FB h (by omega) e
   | exit id=>exact e
   | ret=>exact e
theorem lV (hc:CLe C C') {n m:Nat} (hnm:n <= m):∀ (c:aG) (s:St) (r:Ex × St),aP C n c s = some r->aP C' m c s = some r:=by
 intro c
 induction c with
 | skip=>exact fun s r e=>e
 | region ops d =>
  intro s r e
  simp only [aP] at e ⊢
  split at e
  ·rename_i h1; rw [kC hc h1]; exact e
  ·cases e
 | seq a b iha ihb =>
  intro s r e
  simp only [aP] at e ⊢
  cases ha:aP C n a s with
  | none=>rw [ha] at e; cases e
  | some q =>
   obtain ⟨ex,s'⟩:=q
   rw [ha] at e
   rw [iha s _ ha]
   cases ex with
   | normal=>exact ihb _ _ e
   | exit id=>exact e
   | ret=>exact e
 | cond c a b iha ihb =>
  intro s r e
  simp only [aP] at e ⊢
  split at e
  ·exact iha _ _ e
  ·exact ihb _ _ e
  ·cases e
 | block id a iha =>
  intro s r e
  simp only [aP] at e ⊢
  cases ha:aP C n a s with
  | none=>rw [ha] at e; cases e
  | some q=>rw [ha] at e; rw [iha s _ ha]; exact e
 | loop a iha =>
  intro s r e
  simp only [aP] at e ⊢
  exact FB iha hnm e
 | exit id=>exact fun s r e=>e
 | ret=>exact fun s r e=>e
 | hand g=>exact fun s r e=>e
 | inl ops args dst f body res id slots ih =>
  intro s r e
  simp only [aP] at e ⊢
  split at e
  ·cases e
  ·rename_i s1 h1
   have h1' : iP C' ops s = some s1:=kC (d:=none) hc h1
   rw [h1']
   simp only
   split at e
   ·cases e
   ·rename_i s2 h2
    cases hb:aP C n body s2 with
    | none=>rw [hb] at e; cases e
    | some q=>rw [hb] at e; simp only [ih s2 _ hb]; exact e
 | inlv ops x nc args dst f body res id slots ih =>
  intro s r e
  simp only [aP] at e ⊢
  split at e
  ·cases e
  ·rename_i s1 h1
   have h1' : iP C' ops s = some s1:=kC (d:=none) hc h1
   rw [h1']
   simp only
   split at e
   ·cases e
   ·rename_i caps hcaps
    split at e
    ·cases e
    ·rename_i s2 h2
     cases hb:aP C n body s2 with
     | none=>rw [hb] at e; cases e
     | some q=>rw [hb] at e; simp only [ih s2 _ hb]; exact e
 | pre m' a iha=>exact fun s r e=>iha _ _ e
 | post a m' iha =>
  intro s r e
  simp only [aP] at e ⊢
  cases ha:aP C n a s with
  | none=>rw [ha] at e; cases e
  | some q=>rw [ha] at e; rw [iha s _ ha]; exact e
end
theorem LH (T:wE):∀ (n f:Nat) (ds:List D) (x:D),iV T n f ds = some x->iV T (n + 1) f ds = some x
 | 0,f,ds,x,e=>by cases e
 | n + 1,f,ds,x,e=>by
  rw [iV] at e ⊢
  cases hT:T f with
  | none=>rw [hT] at e; cases e
  | some d =>
   rw [hT] at e
   cases d with
   | told o=>exact e
   | toldL o=>exact e
   | code sf =>
   simp only at e ⊢
   split at e
   ·rename_i hl
    rw [if_pos hl]
    cases hla:jH 0 ds with
    | none =>
     rw [hla] at e
     simp only at e ⊢
     cases he:aP (iV T n) n sf.body ⟨nV 0 ds,[]⟩ with
     | none=>rw [he] at e; cases e
     | some q =>
      rw [he] at e
      rw [lV (LH T n) (Nat.le_succ n) _ _ _ he]
      exact e
    | some t =>
     rw [hla] at e
     simp only at e ⊢
     split at e
     ·rename_i hq
      rw [if_pos hq]
      cases he:aP (iV T n) n sf.body (BK t ds) with
      | none=>rw [he] at e; cases e
      | some q =>
       rw [he] at e
       rw [lV (LH T n) (Nat.le_succ n) _ _ _ he]
       exact e
     ·cases e
   ·cases e
theorem i9 (T:wE) {n m:Nat} (h:n <= m):CLe (iV T n) (iV T m):=by
 induction h with
 | refl=>exact fun _ _ _ e=>e
 | step _ ih=>exact fun f ds x e=>LH T _ f ds x (ih f ds x e)
noncomputable def call (T:wE) (f:Nat) (ds:List D):Option D:=lim fun n=>iV T n f ds
noncomputable def ev (T:wE) (c:aG) (s:St):Option (Ex × St):=lim fun n=>aP (iV T n) n c s
theorem uH {T:wE} {f:Nat} {ds:List D} {x:D}:call T f ds = some x ↔ ∃ n,iV T n f ds = some x:=XD fun _ _ _ h e=>i9 T h _ _ _ e
theorem fW {T:wE} {c:aG} {s:St} {r:Ex × St}:ev T c s = some r ↔ ∃ n,aP (iV T n) n c s = some r:=XD fun _ _ _ h e=>lV (i9 T h) h _ _ _ e
theorem aC2 {P:Program} {T:wE} (hT:∀ f sf,T f = some (.code sf)->∃ fn,P.funcs[f]? = some fn ∧ LZ P fn sf) (hO:∀ f d,T f = some d->aDi P f d) (hm:P.follows .mixedOrders = true) {f:Nat} {ds:List D} {x:D} (e:call T f ds = some x) (hl:jH 0 ds = none):CF P f ds x:=by
 obtain ⟨n,hn⟩:=uH.1 e
 exact (QA T hT hO hm n f ds x hn).1 hl
section
variable {T:wE}
theorem SI (n:Nat):CLe (iV T n) (call T):=fun f ds x e=>uH.2 ⟨n,e⟩
theorem aNx {site:Nat} {evv:bM->V} {bl:Nat->Option aI} {so:fU} {r:V × List (Nat × Option aI)} (e:cJ (call T) site evv bl so = some r):∃ n,cJ (iV T n) site evv bl so = some r:=by
 cases so with
 | call f args =>
  simp only [cJ] at e ⊢
  split at e
  ·cases e
  ·rename_i ds hds
   split at e
   ·cases e
   ·rename_i x hx
    obtain ⟨n,hn⟩:=uH.1 hx
    exact ⟨n,by rw [hn]; exact e⟩
 | callv g args =>
  simp only [cJ] at e ⊢
  split at e
  ·split at e
   ·cases e
   ·split at e
    ·cases e
    ·rename_i x hx
     obtain ⟨n,hn⟩:=uH.1 hx
     exact ⟨n,by rw [hn]; exact e⟩
  ·cases e
 | calln f args =>
  simp only [cJ] at e ⊢
  split at e
  ·cases e
  ·rename_i ds hds
   split at e
   ·rename_i hx
    obtain ⟨n,hn⟩:=uH.1 hx
    exact ⟨n,by rw [hn]; exact e⟩
   ·cases e
 | lend f args t =>
  simp only [cJ] at e ⊢
  split at e
  ·split at e
   ·cases e
   ·split at e
    ·rename_i hq
     simp only [if_pos hq]
     split at e
     ·rename_i hx
      obtain ⟨n,hn⟩:=uH.1 hx
      exact ⟨n,by rw [hn]; exact e⟩
     ·cases e
    ·cases e
  ·cases e
 | _=>exact ⟨0,e⟩
theorem aCD {o:aO} {s:St} {r:St × Fp} (e:jI (call T) o s = some r):∃ n,jI (iV T n) o s = some r:=by
 unfold jI at e ⊢
 split at e
 ·split at e
  ·rename_i v wr ha
   obtain ⟨n,hn⟩:=aNx ha
   exact ⟨n,by rw [hn]; exact e⟩
  ·cases e
 ·exact ⟨0,e⟩
 ·cases e
theorem G4:∀ {l:List aO} {s:St} {r:St × List Fp},jD (call T) l s = some r->∃ n,jD (iV T n) l s = some r
 | [],s,r,e=>⟨0,e⟩
 | o :: l,s,r,e=>by
  simp only [jD] at e ⊢
  split at e
  ·rename_i s' p h1
   split at e
   ·rename_i s'' ps h2
    obtain ⟨n1,g1⟩:=aCD h1
    obtain ⟨n2,g2⟩:=G4 h2
    refine ⟨max n1 n2,?_⟩
    rw [O4 (i9 T (Nat.le_max_left n1 n2)) g1]
    simp only [AG (i9 T (Nat.le_max_right n1 n2)) g2]
    exact e
   ·cases e
  ·cases e
theorem yE {l:List aO} {d:Option (List (Nat × Nat))} {s s' : St}:fT (call T) l d s = some s' ↔ ∃ n,fT (iV T n) l d s = some s':=by
 constructor
 ·intro e
  cases d with
  | none =>
   simp only [fT,LO,Option.map_eq_some_iff] at e ⊢
   obtain ⟨r,h1,h2⟩:=e
   obtain ⟨n,hn⟩:=G4 h1
   exact ⟨n,r,hn,h2⟩
  | some ps =>
   simp only [fT] at e ⊢
   split at e
   ·rename_i h1
    obtain ⟨n,hn⟩:=G4 h1
    exact ⟨n,by rw [hn]; exact e⟩
   ·cases e
 ·rintro ⟨n,hn⟩; exact kC (SI n) hn
theorem aP8 (s:St):ev T .skip s = some (.normal,s):=fW.2 ⟨0,rfl⟩
theorem aPJ (id:Nat) (s:St):ev T (.exit id) s = some (.exit id,s):=fW.2 ⟨0,rfl⟩
theorem EQ (g:St->Option St) (s:St):ev T (.hand g) s = (g s).map fun s'=>(.normal,s'):=by
 refine rJ fun x=>?_
 rw [fW]
 have e:∀ n,aP (iV T n) n (.hand g) s = (g s).map fun s'=>(.normal,s'):=fun n=>by simp only [aP]; cases g s <;> rfl
 simp only [e]
 exact ⟨fun ⟨_,h⟩=>h,fun h=>⟨0,h⟩⟩
theorem aRS (ops:List aO) (args:List bM) (dst:Option Nat) (f:Nat) (body:aG) (res:List j5) (id:Nat) (slots:List Nat) (s:St):ev T (.inl ops args dst f body res id slots) s = (match iP (call T) ops s with
  | none=>none
  | some s1=>match UM args id slots s1 with
   | none=>none
   | some s2=>match ev T body s2 with
    | some (.normal,s3)=>(lG dst res id slots s3).map fun s4=>(.normal,s4)
    | some (.ret,s3)=>(lG dst res id slots s3).map fun s4=>(.normal,s4)
    | _=>none):=by
 refine rJ fun r=>?_
 rw [fW]
 constructor
 ·rintro ⟨n,hn⟩
  simp only [aP] at hn
  split at hn
  ·cases hn
  ·rename_i s1 h1
   have h1' : iP (call T) ops s = some s1:=kC (d:=none) (SI n) h1
   rw [h1']
   simp only
   split at hn
   ·cases hn
   ·rename_i s2 h2
    cases hb:aP (iV T n) n body s2 with
    | none=>rw [hb] at hn; cases hn
    | some q=>rw [hb] at hn; simp only [h2,fW.2 ⟨n,hb⟩]; exact hn
 ·intro e
  split at e
  ·cases e
  ·rename_i s1 h1
   obtain ⟨n1,g1⟩:=(yE (l:=ops) (d:=none)).1 h1
   split at e
   ·cases e
   ·rename_i s2 h2
    cases hb:ev T body s2 with
    | none=>rw [hb] at e; cases e
    | some q =>
     rw [hb] at e
     obtain ⟨n2,g2⟩:=fW.1 hb
     refine ⟨max n1 n2,?_⟩
     have g1' : iP (iV T (max n1 n2)) ops s = some s1:=kC (d:=none) (i9 T (Nat.le_max_left n1 n2)) g1
     have g2':=lV (i9 T (Nat.le_max_right n1 n2)) (Nat.le_max_right n1 n2) _ _ _ g2
     simp only [aP,g1',h2,g2']
     exact e
theorem aPR (ops:List aO) (x:bM) (nc:Nat) (args:List bM) (dst:Option Nat) (f:Nat) (body:aG) (res:List j5) (id:Nat) (slots:List Nat) (s:St):ev T (.inlv ops x nc args dst f body res id slots) s = (match iP (call T) ops s with
  | none=>none
  | some s1=>match FU f nc (bL s1.get x) with
   | none=>none
   | some caps=>match CO (args.map (bL s1.get) ++ caps) id slots s1 with
    | none=>none
    | some s2=>match ev T body s2 with
     | some (.normal,s3)=>(lG dst res id slots s3).map fun s4=>(.normal,s4)
     | some (.ret,s3)=>(lG dst res id slots s3).map fun s4=>(.normal,s4)
     | _=>none):=by
 refine rJ fun r=>?_
 rw [fW]
 constructor
 ·rintro ⟨n,hn⟩
  simp only [aP] at hn
  split at hn
  ·cases hn
  ·rename_i s1 h1
   have h1' : iP (call T) ops s = some s1:=kC (d:=none) (SI n) h1
   rw [h1']
   simp only
   split at hn
   ·cases hn
   ·rename_i caps hcaps
    split at hn
    ·cases hn
    ·rename_i s2 h2
     cases hb:aP (iV T n) n body s2 with
     | none=>rw [hb] at hn; cases hn
     | some q=>rw [hb] at hn; simp only [hcaps,h2,fW.2 ⟨n,hb⟩]; exact hn
 ·intro e
  split at e
  ·cases e
  ·rename_i s1 h1
   obtain ⟨n1,g1⟩:=(yE (l:=ops) (d:=none)).1 h1
   split at e
   ·cases e
   ·rename_i caps hcaps
    split at e
    ·cases e
    ·rename_i s2 h2
     cases hb:ev T body s2 with
     | none=>rw [hb] at e; cases e
     | some q =>
      rw [hb] at e
      obtain ⟨n2,g2⟩:=fW.1 hb
      refine ⟨max n1 n2,?_⟩
      have g1' : iP (iV T (max n1 n2)) ops s = some s1:=kC (d:=none) (i9 T (Nat.le_max_left n1 n2)) g1
      have g2':=lV (i9 T (Nat.le_max_right n1 n2)) (Nat.le_max_right n1 n2) _ _ _ g2
      simp only [aP,g1',hcaps,h2,g2']
      exact e
theorem aRO (s:St):ev T .ret s = some (.ret,s):=fW.2 ⟨0,rfl⟩
theorem UF (l:List aO) (d:Option (List (Nat × Nat))) (s:St):ev T (.region l d) s = (fT (call T) l d s).map fun s'=>(.normal,s'):=by
 refine rJ fun r=>?_
 rw [fW,Option.map_eq_some_iff]
 constructor
 ·rintro ⟨n,hn⟩
  simp only [aP] at hn
  split at hn
  ·rename_i s' h1; cases hn; exact ⟨s',yE.2 ⟨n,h1⟩,rfl⟩
  ·cases hn
 ·rintro ⟨s',h1,rfl⟩
  obtain ⟨n,hn⟩:=yE.1 h1
  exact ⟨n,by simp only [aP,hn]⟩
theorem aQX (a b:aG) (s:St):ev T (.seq a b) s = (match ev T a s with | some (.normal,s')=>ev T b s' | r=>r):=by
 refine rJ fun r=>?_
 rw [fW]
 constructor
 ·rintro ⟨n,hn⟩
  simp only [aP] at hn
  cases ha:aP (iV T n) n a s with
  | none=>rw [ha] at hn; cases hn
  | some q =>
   obtain ⟨ex,s'⟩:=q
   rw [ha] at hn
   rw [fW.2 ⟨n,ha⟩]
   cases ex with
   | normal=>exact fW.2 ⟨n,hn⟩
   | exit id=>exact hn
   | ret=>exact hn
 ·intro e
  cases ha:ev T a s with
  | none=>rw [ha] at e; cases e
  | some q =>
   obtain ⟨ex,s'⟩:=q
   rw [ha] at e
   obtain ⟨n1,g1⟩:=fW.1 ha
   cases ex with
   | normal =>
    obtain ⟨n2,g2⟩:=fW.1 e
    refine ⟨max n1 n2,?_⟩
    simp only [aP,lV (i9 T (Nat.le_max_left n1 n2)) (Nat.le_max_left n1 n2) _ _ _ g1]
    exact lV (i9 T (Nat.le_max_right n1 n2)) (Nat.le_max_right n1 n2) _ _ _ g2
   | exit id=>exact ⟨n1,by simp only [aP,g1]; exact e⟩
   | ret=>exact ⟨n1,by simp only [aP,g1]; exact e⟩
theorem aNZ (c:bM) (a b:aG) (s:St):ev T (.cond c a b) s = (match bL s.get c with | .d (.bool true)=>ev T a s | .d (.bool false)=>ev T b s | _=>none):=by
 refine rJ fun r=>?_
 rw [fW]
 simp only [aP]
 generalize bL s.get c = v
 cases v with
 | d x=>cases x with
  | bool b=>cases b <;> exact fW.symm
  | _=>simp
 | _=>simp
theorem aKS (id:Nat) (a:aG) (s:St):ev T (.block id a) s = (match ev T a s with | some (.exit id',s')=>if id' = id then some (.normal,s') else some (.exit id',s') | r=>r):=by
 refine rJ fun r=>?_
 rw [fW]
 constructor
 ·rintro ⟨n,hn⟩
  simp only [aP] at hn
  cases ha:aP (iV T n) n a s with
  | none=>rw [ha] at hn; cases hn
  | some q=>rw [ha] at hn; rw [fW.2 ⟨n,ha⟩]; exact hn
 ·intro e
  cases ha:ev T a s with
  | none=>rw [ha] at e; cases e
  | some q =>
   rw [ha] at e
   obtain ⟨n1,g1⟩:=fW.1 ha
   exact ⟨n1,by simp only [aP,g1]; exact e⟩
theorem aOz (m:tU) (a:aG) (s:St):ev T (.post a m) s = (match ev T a s with | some (.normal,s')=>some (.normal,m.app s') | r=>r):=by
 refine rJ fun r=>?_
 rw [fW]
 constructor
 ·rintro ⟨n,hn⟩
  simp only [aP] at hn
  cases ha:aP (iV T n) n a s with
  | none=>rw [ha] at hn; cases hn
  | some q=>rw [ha] at hn; rw [fW.2 ⟨n,ha⟩]; exact hn
 ·intro e
  cases ha:ev T a s with
  | none=>rw [ha] at e; cases e
  | some q =>
   rw [ha] at e
   obtain ⟨n1,g1⟩:=fW.1 ha
   exact ⟨n1,by simp only [aP,g1]; exact e⟩
theorem aPm (a:aG) (s:St):ev T (.loop a) s = (match ev T a s with | some (.normal,s')=>ev T (.loop a) s' | r=>r):=by
 refine rJ fun r=>?_
 rw [fW]
 constructor
 ·rintro ⟨n,hn⟩
  simp only [aP] at hn
  cases n with
  | zero=>cases hn
  | succ n =>
   simp only [qT] at hn
   cases ha:aP (iV T (n + 1)) (n + 1) a s with
   | none=>rw [ha] at hn; cases hn
   | some q =>
    obtain ⟨ex,s'⟩:=q
    rw [ha] at hn
    rw [fW.2 ⟨n + 1,ha⟩]
    cases ex with
    | normal=>exact fW.2 ⟨n + 1,by simp only [aP]; exact FB (fun _ _ e=>e) (Nat.le_succ n) hn⟩
    | exit id=>exact hn
    | ret=>exact hn
 ·intro e
  cases ha:ev T a s with
  | none=>rw [ha] at e; cases e
  | some q =>
   obtain ⟨ex,s'⟩:=q
   rw [ha] at e
   obtain ⟨n1,g1⟩:=fW.1 ha
   cases ex with
   | normal =>
    obtain ⟨n2,g2⟩:=fW.1 e
    refine ⟨max n1 n2 + 1,?_⟩
    have h1:=lV (i9 T (show n1 <= max n1 n2 + 1 by omega)) (show n1 <= max n1 n2 + 1 by omega) _ _ _ g1
    simp only [aP,qT,h1]
    simp only [aP] at g2
    exact FB (fun s r e=>lV (i9 T (show n2 <= max n1 n2 + 1 by omega)) (show n2 <= max n1 n2 + 1 by omega) _ _ _ e) (show n2 <= max n1 n2 by omega) g2
   | exit id=>exact ⟨n1 + 1,by simp only [aP,qT,lV (i9 T (Nat.le_succ n1)) (Nat.le_succ n1) _ _ _ g1]; exact e⟩
   | ret=>exact ⟨n1 + 1,by simp only [aP,qT,lV (i9 T (Nat.le_succ n1)) (Nat.le_succ n1) _ _ _ g1]; exact e⟩
theorem T5 {f:Nat} {o:List D->Option D} (hf:T f = some (.told o)) (ds:List D) (hlt:jH 0 ds = none):call T f ds = o ds:=by
 refine rJ fun x=>?_
 rw [uH]
 constructor
 ·rintro ⟨n,hn⟩
  cases n with
  | zero=>cases hn
  | succ n=>simpa only [iV,hf,if_pos hlt] using hn
 ·intro e
  exact ⟨1,by simpa only [iV,hf,if_pos hlt] using e⟩
theorem aQf {f:Nat} {sf:dE} (hf:T f = some (.code sf)) (ds:List D) (hl:ds.length = sf.np) (hlt:jH 0 ds = none):call T f ds = (match ev T sf.body ⟨nV 0 ds,[]⟩ with
  | some (.normal,s)=>HM sf s
  | some (.ret,s)=>HM sf s
  | _=>none):=by
 refine rJ fun x=>?_
 rw [uH]
 constructor
 ·rintro ⟨n,hn⟩
  cases n with
  | zero=>cases hn
  | succ n =>
   simp only [iV,hf,if_pos hl,hlt] at hn
   cases he:aP (iV T n) n sf.body ⟨nV 0 ds,[]⟩ with
   | none=>rw [he] at hn; cases hn
   | some q=>rw [he] at hn; rw [fW.2 ⟨n,he⟩]; exact hn
 ·intro e
  cases he:ev T sf.body ⟨nV 0 ds,[]⟩ with
  | none=>rw [he] at e; cases e
  | some q =>
   rw [he] at e
   obtain ⟨n,hn⟩:=fW.1 he
   exact ⟨n + 1,by simp only [iV,hf,if_pos hl,hlt,hn]; exact e⟩
theorem aGC {f t:Nat} {sf:dE} (hf:T f = some (.code sf)) (ds:List D) (hl:ds.length = sf.np) (hlt:jH 0 ds = some t) (hle:sf.lend = true) (hnd:zZ t sf.body = true):call T f ds = (match ev T sf.body (BK t ds) with
  | some (.normal,s)=>yF sf s t
  | some (.ret,s)=>yF sf s t
  | _=>none):=by
 refine rJ fun x=>?_
 rw [uH]
 constructor
 ·rintro ⟨n,hn⟩
  cases n with
  | zero=>cases hn
  | succ n =>
   simp only [iV,hf,if_pos hl,hlt,if_pos (And.intro hle hnd)] at hn
   cases he:aP (iV T n) n sf.body (BK t ds) with
   | none=>rw [he] at hn; cases hn
   | some q=>rw [he] at hn; rw [fW.2 ⟨n,he⟩]; exact hn
 ·intro e
  cases he:ev T sf.body (BK t ds) with
  | none=>rw [he] at e; cases e
  | some q =>
   rw [he] at e
   obtain ⟨n,hn⟩:=fW.1 he
   exact ⟨n + 1,by simp only [iV,hf,if_pos hl,hlt,if_pos (And.intro hle hnd),hn]; exact e⟩
end
def GH {S X:Type} (step:S->Option (S ⊕ X)):Nat->S->Option X
 | 0,_=>none
 | n + 1,s=>match step s with
  | none=>none
  | some (.inl s')=>GH step n s'
  | some (.inr x)=>some x
noncomputable def dK {S X:Type} (step:S->Option (S ⊕ X)) (s:S):Option X:=lim fun n=>GH step n s
section
variable {S X:Type} {step:S->Option (S ⊕ X)}
theorem Q8:∀ (n m:Nat) (s:S) (x:X),n <= m->GH step n s = some x->GH step m s = some x
 | 0,m,s,x,_,e=>by cases e
 | n + 1,0,s,x,h,e=>by omega
 | n + 1,m + 1,s,x,h,e=>by
  simp only [GH] at e ⊢
  split at e
  ·cases e
  ·exact Q8 n m _ x (by omega) e
  ·exact e
theorem HS {s:S} {x:X}:dK step s = some x ↔ ∃ n,GH step n s = some x:=XD fun n m x h e=>Q8 n m _ x h e
theorem aEi (s:S):dK step s = (match step s with | none=>none | some (.inl s')=>dK step s' | some (.inr x)=>some x):=by
 refine rJ fun x=>?_
 rw [HS]
 constructor
 ·rintro ⟨n,hn⟩
  cases n with
  | zero=>cases hn
  | succ n =>
   simp only [GH] at hn
   cases hs:step s with
   | none=>rw [hs] at hn; cases hn
   | some q =>
    rw [hs] at hn
    cases q with
    | inl s'=>exact HS.2 ⟨n,hn⟩
    | inr y=>exact hn
 ·intro e
  cases hs:step s with
  | none=>rw [hs] at e; cases e
  | some q =>
   rw [hs] at e
   cases q with
   | inl s'=>obtain ⟨n,hn⟩:=HS.1 e; exact ⟨n + 1,by simp only [GH,hs]; exact hn⟩
   | inr y=>exact ⟨1,by simp only [GH,hs]; exact e⟩
def cU (enc:S->St) (out:X->Ex × St):Option (S ⊕ X)->Option (Ex × St)
 | none=>none
 | some (.inl s')=>some (.normal,enc s')
 | some (.inr x)=>some (out x)
theorem aJN {T:wE} {c:aG} (enc:S->St) (out:X->Ex × St) (hout:∀ x s,out x ≠ (.normal,s)) (h:∀ s,ev T c (enc s) = cU enc out (step s)) (s:S) :
  ev T (.loop c) (enc s) = (dK step s).map out:=by
 refine rJ fun r=>?_
 rw [Option.map_eq_some_iff]
 constructor
 ·intro e
  obtain ⟨n,hn⟩:=fW.1 e
  simp only [aP] at hn
  generalize hk:(n:Nat) = k at hn
  have key:∀ (k:Nat) (s:S),qT (aP (iV T n) n c) k (enc s) = some r->∃ x,GH step k s = some x ∧ out x = r:=by
   intro k
   induction k with
   | zero=>intro s e; cases e
   | succ k ih =>
    intro s e
    simp only [qT] at e
    cases hc:aP (iV T n) n c (enc s) with
    | none=>rw [hc] at e; cases e
    | some q =>
     have h1:=fW.2 ⟨n,hc⟩
     rw [h s] at h1
     rw [hc] at e
     simp only [GH]
     cases hs:step s with
     | none=>rw [hs] at h1; cases h1
     | some y =>
      rw [hs] at h1
      cases y with
      | inl s' =>
       obtain rfl:=Option.some.inj h1
       exact ih s' e
      | inr x =>
       simp only [cU,Option.some.injEq] at h1
       refine ⟨x,rfl,?_⟩
       obtain ⟨ex,s'⟩:=q
       cases ex with
       | normal=>exact absurd h1 (hout x s')
       | exit id=>rw [h1]; exact Option.some.inj e
       | ret=>rw [h1]; exact Option.some.inj e
  subst hk
  obtain ⟨x,g1,g2⟩:=key n s hn
  exact ⟨x,HS.2 ⟨n,g1⟩,g2⟩
 ·rintro ⟨x,h1,rfl⟩
  obtain ⟨n,hn⟩:=HS.1 h1
  clear h1
  induction n generalizing s with
  | zero=>cases hn
  | succ n ih =>
   simp only [GH] at hn
   rw [aPm,h s]
   cases hs:step s with
   | none=>rw [hs] at hn; cases hn
   | some q =>
    rw [hs] at hn
    cases q with
    | inl s'=>exact ih s' hn
    | inr y =>
     obtain rfl:=Option.some.inj hn
     simp only [cU]
     cases ho:out y with
     | mk ex s' =>
      cases ex with
      | normal=>exact absurd ho (hout y s')
      | exit id=>rfl
      | ret=>rfl
end
abbrev sp (n:Nat) (op:fU):aO:=⟨some n,op,none,n⟩
abbrev so (n:Nat) (op:fU) (s:Nat):aO:=⟨some n,op,none,s⟩
abbrev dI (x:Int):V:=.d (.int .i64 x)
abbrev dB (b:Bool):V:=.d (.bool b)
abbrev gf (n g:Nat) (op:fU):aO:=⟨some n,op,some (g,false),n⟩
abbrev gt (n g:Nat) (op:fU):aO:=⟨some n,op,some (g,true),n⟩
abbrev F4 (a x y n:Nat):aO:=⟨none,.store a (.t x) (.t y),none,n⟩
abbrev aF (x:Nat):fU:=.move (.t x)
abbrev cX (a x:Nat):fU:=.load a false (.t x)
abbrev KE (a x:Nat):fU:=.load a true (.t x)
abbrev jY (a x:Nat):fU:=.fieldAddr a (.t x)
abbrev pH (x:Nat):fU:=.len (.t x)
abbrev gM (a x y:Nat):fU:=.indexAddr a (.t x) (.t y)
abbrev lX (k:Nat) (o:BinOp) (x y:Nat):fU:=.bin k o (.t x) (.t y)
abbrev jE (k:Nat) (o:BinOp) (x:Nat) (y:Int):fU:=.bin k o (.t x) (.c (dI y))
abbrev bx4 (x:Nat):fU:=.box (.t x)
abbrev rG (x:Int):fU:=.move (.c (dI x))
abbrev SJ (x:Nat):fU:=.un .not (.t x)
abbrev m1 (a:List Nat):tU:=⟨a,[],[],[],[],[]⟩
abbrev m2 (a b:List Nat):tU:=⟨a,b,[],[],[],[]⟩
abbrev lT (l:List aO):aG:=.region l none
abbrev LU (l:List aO) (x:List (Nat × Nat)):aG:=.region l (some x)
abbrev uO (a:List Nat):aG:=.pre ⟨a,[],[],[],[],[]⟩ .ret
abbrev yC (x:Nat) (c:aG):aG:=.cond (.t x) c .skip
abbrev cH (a b:aG):aG:=.seq a b
abbrev aY (l:List aO) (b:aG):aG:=.seq (.region l none) b
theorem lW {P:Program} {f:Func} {s:dE} (h:kI P f s:=by exact ⟨rfl,by decide,rfl,by decide,rfl,_,rfl,by kernel_rfl⟩):kI P f s:=h
end Vm
end Go.Proofs.Ytgjcnbgfaimepaa
