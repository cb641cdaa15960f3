/- Code is run; calls are run. Calls are run; what a call answers at last. What code and calls answer at last; equations to reckon with. -/
import Derived.Test.YtfhebiceipgdmaaVmC
set_option linter.unusedVariables false
namespace Go.Proofs.Ytfhebiceipgdmaa
namespace Vm
open Go.RowKit
def wM (keep:List Nat) (bl:Nat→Option aY):V→V
 | .ptr id off=>match bl id with
  | some (.box _)=>if keep.contains id then .ptr id off else .any
  | some (.fbox cs)=>.d (.ptr cs off)
  | _=>.any
 | .own id ver=>match bl id with
  | some (.rows v _ _ _)=>if keep.contains id && ver == v then .own id 0 else .any
  | some (.froz v rows)=>if ver = v then .d (.sl rows) else .any
  | _=>.any
 | .orow id ver i off=>match bl id with
  | some (.rows v _ _ _)=>if keep.contains id && ver == v then .orow id 0 i off else .any
  | _=>.any
 | v=>v
def QM (keep:List Nat) (bl:Nat→Option aY):V→V
 | .agg cs=>.agg (cs.map (wM keep bl))
 | v=>wM keep bl v
def L3 (keep:List Nat) (bl:Nat→Option aY):V→V
 | .tup vs=>.tup (vs.map (QM keep bl))
 | v=>QM keep bl v
def H9 (keep:List Nat) (bl:Nat→Option aY):aY→Option aY
 | .box cs=>some (.box (cs.map (wM keep bl)))
 | .rows _ e s rows=>some (.rows 0 e s rows)
 | .froz _ _=>none
 | .fbox _=>none
def mkT (p:Nat × Nat × Nat × Nat) (s:St):St:=match s.get p.1,s.blk p.2.1 with
 | .nil,none=>if 0 < p.2.2.2 then ⟨(p.1,.own p.2.1 0) :: s.fr,(p.2.1,some (.rows 0 p.2.2.1 p.2.2.2 [])) :: s.bl⟩ else s
 | _,_=>s
def mkC (p:Nat × Nat × Nat × Nat × Nat) (s:St):St:=match s.blk p.1,s.blk p.2.2.1 with
 | some (.box cs),none=>match cs[p.2.1]? with
  | some .nil=>if 0 < p.2.2.2.2 then ⟨s.fr,(p.1,some (.box (cs.set p.2.1 (.own p.2.2.1 0)))) :: (p.2.2.1,some (.rows 0 p.2.2.2.1 p.2.2.2.2 [])) :: s.bl⟩ else s
  | _=>s
 | _,_=>s
def frT (t:Nat) (s:St):St:=match tF s.blk (s.get t) with
 | some d=>⟨(t,.d d) :: s.fr,G1 s.blk (s.get t) ++ s.bl⟩
 | none=>s
def frC (p:Nat × Nat) (s:St):St:=match s.blk p.1 with
 | some (.box cs)=>match cs[p.2]? with
  | some v=>match tF s.blk v with
   | some d=>⟨s.fr,(p.1,some (.box (cs.set p.2 (.d d)))) :: (G1 s.blk v ++ s.bl)⟩
   | none=>s
  | none=>s
 | _=>s
def P6 (live keep:List Nat) (s:St):St:=⟨live.map fun t=>(t,L3 keep s.blk (s.get t)),keep.map fun i=>(i,(s.blk i).bind (H9 keep s.blk))⟩
def yK.app (m:yK) (s:St):St:=P6 m.live m.keep (m.fzC.foldl (fun s p=>frC p s) (m.fzT.foldl (fun s t=>frT t s) (m.ownC.foldl (fun s p=>mkC p s) (m.ownT.foldl (fun s p=>mkT p s) s))))
section
variable {nt:Nat} {w0 w:World} {h0 h:Hp} {s:St} {a:Act} {hd:Nat→Value}
theorem XC {α:Type} (f:Nat→α) (d:α) (t:Nat):∀ l:List Nat,lk (l.map fun i=>(i,f i)) d t = if t ∈ l then f t else d
 | []=>rfl
 | k :: l=>by
  simp only [List.map_cons,lk,XC f d t l,List.mem_cons]
  by_cases e:t = k
  ·subst e; simp
  ·simp [e]
theorem vT {fr:Nat→V} {bl bl' : Nat→Option aY} {keep:List Nat} (r:Rl nt w0 h0 fr bl a w h hd) (hbl:∀ i,bl' i = if i ∈ keep then (bl i).bind (H9 keep bl) else none) {v:Value} {x:V} (hx:R1 h hd bl v x):R1 h hd bl' v (wM keep bl x):=by
 cases x with
 | ptr id off =>
  obtain ⟨⟨b,hb,hbx⟩,g,q1,q2⟩:=hx
  simp only [wM,hb]
  cases b with
  | box cs =>
   simp only
   split
   ·rename_i hk
    exact ⟨⟨_,by rw [hbl,if_pos (by simpa using hk),hb]; rfl,rfl⟩,g,q1,q2⟩
   ·trivial
  | fbox cs =>
   have:=r.blk id _ hb
   simp only [BR,q1] at this
   subst q2
   exact ⟨rfl,JD this⟩
  | _=>trivial
 | own id ver =>
  obtain ⟨b,c,hb,hc,hle,h1,he⟩:=hx
  simp only [wM,hb]
  cases b with
  | box cs=>trivial
  | fbox cs=>trivial
  | rows v' e s rows =>
   simp only [aY.ver?,Option.some.injEq] at hc
   simp only
   split
   ·rename_i hk
    simp only [Bool.and_eq_true,beq_iff_eq] at hk
    exact ⟨_,0,by rw [hbl,if_pos (by simpa using hk.1),hb]; rfl,rfl,Nat.le_refl _,h1,fun _=>he (by omega)⟩
   ·trivial
  | froz v' rows =>
   simp only [aY.ver?,Option.some.injEq] at hc
   simp only
   split
   ·rename_i hv
    refine ⟨rfl,?_⟩
    rw [he (by omega)]
    exact r.blk id _ hb
   ·trivial
 | orow id ver i off =>
  obtain ⟨b,c,hb,hc,hle,h1,he⟩:=hx
  simp only [wM,hb]
  cases b with
  | rows v' e s rows =>
   simp only [aY.ver?,Option.some.injEq] at hc
   simp only
   split
   ·rename_i hk
    simp only [Bool.and_eq_true,beq_iff_eq] at hk
    obtain ⟨hk,rfl⟩:=hk
    refine ⟨_,0,by rw [hbl,if_pos (by simpa using hk),hb]; rfl,rfl,Nat.le_refl _,h1,fun e' s' rows' eq=>?_⟩
    cases eq
    exact he e s rows rfl
   ·trivial
  | _=>trivial
 | any=>trivial
 | d x=>exact hx
 | nil=>exact hx
 | agg cs=>exact hx
 | tup cs=>exact hx
 | fn f caps=>exact hx
theorem vP {fr:Nat→V} {bl bl' : Nat→Option aY} {keep:List Nat} (r:Rl nt w0 h0 fr bl a w h hd) (hbl:∀ i,bl' i = if i ∈ keep then (bl i).bind (H9 keep bl) else none) {v:Value} {x:V} (hx:R2 h hd bl v x):R2 h hd bl' v (QM keep bl x):=by
 cases x with
 | agg cs =>
  obtain ⟨arr,rfl,h1,h2⟩:=hx
  refine ⟨arr,rfl,by simpa using h1,fun j x hx=>?_⟩
  rw [List.getElem?_map,Option.map_eq_some_iff] at hx
  obtain ⟨y,hy,rfl⟩:=hx
  exact ⟨vT r hbl (h2 j y hy).1,(h2 j y hy).2⟩
 | tup vs=>exact (show False from hx).elim
 | any=>exact R2.of1 (vT r hbl (x:=.any) hx)
 | d x=>exact R2.of1 (vT r hbl (x:=.d x) hx)
 | nil=>exact R2.of1 (vT r hbl (x:=.nil) hx)
 | ptr i o=>exact R2.of1 (vT r hbl (x:=.ptr i o) hx)
 | own i n=>exact R2.of1 (vT r hbl (x:=.own i n) hx)
 | orow i n j o=>exact R2.of1 (vT r hbl (x:=.orow i n j o) hx)
 | fn f c=>exact R2.of1 (vT r hbl (x:=.fn f c) hx)
theorem aD8 {fr:Nat→V} {bl bl' : Nat→Option aY} {keep:List Nat} (r:Rl nt w0 h0 fr bl a w h hd) (hbl:∀ i,bl' i = if i ∈ keep then (bl i).bind (H9 keep bl) else none) {v:Value} {x:V} (hx:R3 h hd bl v x):R3 h hd bl' v (L3 keep bl x):=by
 cases x with
 | tup vs =>
  obtain ⟨arr,rfl,h1,h2⟩:=hx
  refine ⟨arr,rfl,by simpa using h1,fun j x hx=>?_⟩
  rw [List.getElem?_map,Option.map_eq_some_iff] at hx
  obtain ⟨y,hy,rfl⟩:=hx
  exact vP r hbl (h2 j y hy)
 | agg cs=>exact R3.of2 (vP r hbl (x:=.agg cs) hx)
 | any=>exact R3.of2 (vP r hbl (x:=.any) hx)
 | d x=>exact R3.of2 (vP r hbl (x:=.d x) hx)
 | nil=>exact R3.of2 (vP r hbl (x:=.nil) hx)
 | ptr i o=>exact R3.of2 (vP r hbl (x:=.ptr i o) hx)
 | own i n=>exact R3.of2 (vP r hbl (x:=.own i n) hx)
 | orow i n j o=>exact R3.of2 (vP r hbl (x:=.orow i n j o) hx)
 | fn f c=>exact R3.of2 (vP r hbl (x:=.fn f c) hx)
theorem aFd (r:Rl nt w0 h0 s.get s.blk a w h hd) (live keep:List Nat):Rl nt w0 h0 (P6 live keep s).get (P6 live keep s).blk a w h hd:=by
 have hg:∀ t,(P6 live keep s).get t = if t ∈ live then L3 keep s.blk (s.get t) else .any:=fun t=>XC _ _ _ _
 have hb:∀ i,(P6 live keep s).blk i = if i ∈ keep then (s.blk i).bind (H9 keep s.blk) else none:=fun i=>XC _ _ _ _
 have hcase:∀ id b,(P6 live keep s).blk id = some b→∃ b0,s.blk id = some b0 ∧ H9 keep s.blk b0 = some b:=by
  intro id b e
  rw [hb] at e
  split at e
  ·rw [Option.bind_eq_some_iff] at e; exact e
  ·cases e
 refine { tmps:=r.tmps,defers:=r.defers,below:=r.below,hle:=r.hle,h0le:=r.h0le,hbase:=r.hbase,frame:=fun t=>?_,blk:=fun id b e=>?_,sep:=?_ }
 ·rw [hg]
  split
  ·exact aD8 r hb (r.frame t)
  ·trivial
 ·obtain ⟨b0,e1,e2⟩:=hcase id b e
  have hB:=r.blk id b0 e1
  cases b0 with
  | box cs =>
   simp only [H9,Option.some.injEq] at e2
   subst e2
   obtain ⟨g,arr,ee,q1,q2,q3,q4,q5,q6⟩:=hB
   refine ⟨g,arr,ee,q1,q2,q3,by simpa using q4,fun j x hx=>?_,q6⟩
   rw [List.getElem?_map,Option.map_eq_some_iff] at hx
   obtain ⟨y,hy,rfl⟩:=hx
   exact ⟨vT r hb (q5 j y hy).1,(q5 j y hy).2⟩
  | rows v' ee ss rows=>simp only [H9,Option.some.injEq] at e2; subst e2; exact hB
  | froz v' rows=>cases e2
  | fbox cs=>cases e2
 ·intro i j bi bj g hi hj li lj gi gj
  obtain ⟨b0,e1,e2⟩:=hcase i bi hi
  obtain ⟨b1,e3,e4⟩:=hcase j bj hj
  have l0:b0.live = true:=by cases b0 <;> first | rfl | cases e2
  have l1:b1.live = true:=by cases b1 <;> first | rfl | cases e4
  exact r.sep i j b0 b1 g e1 e3 l0 l1 gi gj
theorem Z6 (r:Rl nt w0 h0 s.get s.blk a w h hd) {id e size:Nat} (hs:s.blk id = none) (hz:0 < size):∃ hd',Rl nt w0 h0 s.get (cX s.blk [(id,some (.rows 0 e size []))]) a w h hd' ∧ hd' id = .slice none 0 0 ∧ R1 h hd' (cX s.blk [(id,some (.rows 0 e size []))]) (.slice none 0 0) (.own id 0):=by
 obtain ⟨hd',hh,hr⟩:=r.newRows' (w':=w) none (fun d e=>by cases e) id hs e size [] (.slice none 0 0) [] hz (by simp [maxLen]) ⟨rfl,rfl,rfl,Nat.le_refl _,fun _ _ _=>rfl⟩ (World.ownsRow_nil w _ e size) (fun i row hi=>by simp at hi)
 exact ⟨hd',hr,hh,⟨_,0,sA _ _ _,rfl,Nat.le_refl _,rfl,fun _=>hh.symm⟩⟩
theorem aKz (r:Rl nt w0 h0 s.get s.blk a w h hd) (p:Nat × Nat × Nat × Nat):∃ hd',Rl nt w0 h0 (mkT p s).get (mkT p s).blk a w h hd':=by
 obtain ⟨t,id,e,size⟩:=p
 unfold mkT
 split
 ·rename_i h1 h2
  split
  ·rename_i hz
   simp only at h1 h2 hz
   obtain ⟨hd',hr,hh,hv⟩:=Z6 r h2 hz (e:=e)
   refine ⟨hd',?_⟩
   have e1:(⟨(t,.own id 0) :: s.fr,(id,some (.rows 0 e size [])) :: s.bl⟩ : St).get = kK s.get (some t) (.own id 0):=by
    funext t'
    simp only [St.get,lk,kK,Option.some.injEq]
    by_cases q:t' = t
    ·rw [if_pos q,if_pos q.symm]
    ·rw [if_neg q,if_neg fun x=>q x.symm]
   have e2:(⟨(t,.own id 0) :: s.fr,(id,some (.rows 0 e size [])) :: s.bl⟩ : St).blk = cX s.blk [(id,some (.rows 0 e size []))]:=by
    funext i
    simp only [St.blk,lk,cX]
   simp only at e1 e2 ⊢
   rw [e1,e2]
   refine { hr with frame:=fun t'=>?_ }
   simp only [kK,Option.some.injEq]
   by_cases q:t = t'
   ·rw [if_pos q]
    have:=r.frame t
    rw [h1] at this
    subst q
    rw [show a.tmps.getD t undef = _ from this]
    exact hv
   ·rw [if_neg q]; exact hr.frame t'
  ·exact ⟨hd,r⟩
 ·exact ⟨hd,r⟩
theorem aJH (r:Rl nt w0 h0 s.get s.blk a w h hd) (p:Nat × Nat × Nat × Nat × Nat):∃ hd',Rl nt w0 h0 (mkC p s).get (mkC p s).blk a w h hd':=by
 obtain ⟨b,c,id,e,size⟩:=p
 unfold mkC
 split
 ·rename_i cs h1 h2
  split
  ·rename_i h3
   split
   ·rename_i hz
    simp only at h1 h2 h3 hz
    obtain ⟨hd',hr,hh,hv⟩:=Z6 r h2 hz (e:=e)
    have hne:b ≠ id:=fun q=>by rw [q,h2] at h1; cases h1
    have hb' : cX s.blk [(id,some (.rows 0 e size []))] b = some (.box cs):=by rw [B3 _ _ hne]; exact h1
    obtain ⟨g,arr,ee,q1,q2,q3,q4,q5,q6⟩:=hr.blk b _ hb'
    have hself:arr.getD c undef = .slice none 0 0:=(q5 c _ h3).1
    obtain ⟨hd'',hr''⟩:=hr.setBox (w':=w) none (fun d e=>by cases e) undef b cs (cs.set c (.own id 0)) hb' g arr arr ee q1 (by simpa using q4) (by
     intro j x hx
     rw [List.getElem?_set] at hx
     split at hx
     ·rename_i hj
      subst hj
      split at hx
      ·cases hx
       rw [hself]
       exact ⟨hv,rfl⟩
      ·cases hx
     ·exact q5 j x hx) q3 ⟨rfl,rfl,rfl,Nat.le_refl _,fun _ _ _=>rfl⟩
    refine ⟨hd'',?_⟩
    have e2:(⟨s.fr,(b,some (.box (cs.set c (.own id 0)))) :: (id,some (.rows 0 e size [])) :: s.bl⟩ : St).blk = cX (cX s.blk [(id,some (.rows 0 e size []))]) [(b,some (.box (cs.set c (.own id 0))))]:=by
     funext i
     simp only [St.blk,lk,cX]
    simp only at e2 ⊢
    rw [e2]
    exact hr''
   ·exact ⟨hd,r⟩
  ·exact ⟨hd,r⟩
 ·exact ⟨hd,r⟩
theorem XG {α:Type}:∀ (l m:List (Nat × α)) (d:α) (t:Nat),lk (l ++ m) d t = lk l (lk m d t) t
 | [],m,d,t=>rfl
 | (k,v) :: l,m,d,t=>by simp only [List.cons_append,lk]; rw [XG l m d t]
theorem aKv (r:Rl nt w0 h0 s.get s.blk a w h hd) (t:Nat):∃ h',Rl nt w0 h0 (frT t s).get (frT t s).blk a w h' hd:=by
 unfold frT
 split
 ·rename_i d hd0
  refine ⟨IB w h hd (G1 s.blk (s.get t)),?_⟩
  have r':=r.freeze _ (OA (bl:=s.blk) (s.get t))
  have e1:(⟨(t,.d d) :: s.fr,G1 s.blk (s.get t) ++ s.bl⟩ : St).get = kK s.get (some t) (.d d):=by
   funext t'
   simp only [St.get,lk,kK,Option.some.injEq]
   by_cases q:t' = t
   ·rw [if_pos q,if_pos q.symm]
   ·rw [if_neg q,if_neg fun x=>q x.symm]
  have e2:(⟨(t,.d d) :: s.fr,G1 s.blk (s.get t) ++ s.bl⟩ : St).blk = cX s.blk (G1 s.blk (s.get t)):=by
   funext i
   simp only [St.blk,cX,XG]
  rw [e1,e2]
  refine { r' with frame:=fun t'=>?_ }
  simp only [kK,Option.some.injEq]
  by_cases q:t = t'
  ·rw [if_pos q]
   subst q
   have hx:R1 h hd s.blk (a.tmps.getD t undef) (s.get t):=by
    have:=r.frame t
    cases hg:s.get t <;> rw [hg] at this hd0 <;> first | exact this | cases hd0
   have:=EZ r (G1 s.blk (s.get t)) hx hd0 fun p hp=>hp
   exact ⟨this.2,this.1⟩
  ·rw [if_neg q]; exact r'.frame t'
 ·exact ⟨h,r⟩
theorem aJr (r:Rl nt w0 h0 s.get s.blk a w h hd) (p:Nat × Nat):∃ h' hd',Rl nt w0 h0 (frC p s).get (frC p s).blk a w h' hd':=by
 obtain ⟨b,c⟩:=p
 unfold frC
 split
 ·rename_i cs h1
  split
  ·rename_i v h3
   split
   ·rename_i d hd0
    simp only at h1 h3
    have r':=r.freeze _ (OA (bl:=s.blk) v)
    have hb' : cX s.blk (G1 s.blk v) b = some (.box cs):=by
     refine (tW ?_).trans h1
     intro hm
     obtain ⟨q,hq,rfl⟩:=List.mem_map.1 hm
     rcases OA (bl:=s.blk) v q hq with ⟨v',e',s',rows,g1,_⟩ | ⟨cs',ds,g1,g2,_⟩
     ·rw [h1] at g1; cases g1
     ·have:q ∈ G1 s.blk v:=hq
      unfold G1 at this
      split at this
      ·split at this
       ·simp only [List.mem_singleton] at this; rw [this] at g2; cases g2
       ·cases this
      ·cases this
    obtain ⟨g,arr,ee,q1,q2,q3,q4,q5,q6⟩:=r'.blk b _ hb'
    obtain ⟨_,arr0,ee0,z1,z2,z3,z4,z5,z6⟩:=r.blk b _ h1
    rw [q1] at z1; cases z1
    rw [q3] at z3; cases z3
    have hval:=EZ r (G1 s.blk v) (z5 c v h3).1 hd0 fun p hp=>hp
    obtain ⟨hd'',hr''⟩:=r'.setBox (w':=w) none (fun d e=>by cases e) undef b cs (cs.set c (.d d)) hb' g arr arr ee q1 (by simpa using q4) (by
     intro j x hx
     rw [List.getElem?_set] at hx
     split at hx
     ·rename_i hj
      subst hj
      split at hx
      ·cases hx
       exact ⟨⟨hval.2,hval.1⟩,(z5 c v h3).2⟩
      ·cases hx
     ·exact q5 j x hx) q3 ⟨rfl,rfl,rfl,Nat.le_refl _,fun _ _ _=>rfl⟩
    refine ⟨IB w h hd (G1 s.blk v),hd'',?_⟩
    have e2:(⟨s.fr,(b,some (.box (cs.set c (.d d)))) :: (G1 s.blk v ++ s.bl)⟩ : St).blk = cX (cX s.blk (G1 s.blk v)) [(b,some (.box (cs.set c (.d d))))]:=by
     funext i
     simp only [St.blk,lk,cX,XG]
    simp only at e2 ⊢
    rw [e2]
    exact hr''
   ·exact ⟨h,hd,r⟩
  ·exact ⟨h,hd,r⟩
 ·exact ⟨h,hd,r⟩
theorem GM {α:Type} (f:α→St→St) (hf:∀ (x:α) (s:St) (h:Hp) (hd:Nat→Value),Rl nt w0 h0 s.get s.blk a w h hd→∃ h' hd',Rl nt w0 h0 (f x s).get (f x s).blk a w h' hd'):∀ (l:List α) (s:St) (h:Hp) (hd:Nat→Value),Rl nt w0 h0 s.get s.blk a w h hd→∃ h' hd',Rl nt w0 h0 (l.foldl (fun s x=>f x s) s).get (l.foldl (fun s x=>f x s) s).blk a w h' hd'
 | [],s,h,hd,r=>⟨h,hd,r⟩
 | x :: l,s,h,hd,r=>by
  obtain ⟨h',hd',r'⟩:=hf x s h hd r
  exact GM f hf l (f x s) h' hd' r'
theorem YW (r:Rl nt w0 h0 s.get s.blk a w h hd) (m:yK):∃ h' hd',Rl nt w0 h0 (m.app s).get (m.app s).blk a w h' hd':=by
 obtain ⟨h1,hd1,r1⟩:=GM mkT (fun x s h hd r=>⟨h,aKz r x⟩) m.ownT s h hd r
 obtain ⟨h2,hd2,r2⟩:=GM mkC (fun x s h hd r=>⟨h,aJH r x⟩) m.ownC _ h1 hd1 r1
 obtain ⟨h3,hd3,r3⟩:=GM frT (fun x s h hd r=>let ⟨h',q⟩:=aKv r x; ⟨h',hd,q⟩) m.fzT _ h2 hd2 r2
 obtain ⟨h4,hd4,r4⟩:=GM frC (fun x s h hd r=>aJr r x) m.fzC _ h3 hd3 r3
 exact ⟨h4,hd4,aFd r4 m.live m.keep⟩
end
inductive Ex where
 | normal | exit (id:Nat) | ret
def Ex.go:Ex→Exit
 | .normal=>.normal
 | .exit id=>.exit id
 | .ret=>.ret
def BX (f:St→Option (Ex × St)):Nat→St→Option (Ex × St)
 | 0,_=>none
 | n + 1,s=>match f s with
  | some (.normal,s')=>BX f n s'
  | r=>r
def eB (C:Nat→List D→Option D) (n:Nat):bB→St→Option (Ex × St)
 | .skip,s=>some (.normal,s)
 | .region ops draw,s=>match iH C ops draw s with
  | some s'=>some (.normal,s')
  | none=>none
 | .seq a b,s=>match eB C n a s with
  | some (.normal,s')=>eB C n b s'
  | r=>r
 | .cond c a b,s=>match dL s.get c with
  | .d (.bool true)=>eB C n a s
  | .d (.bool false)=>eB C n b s
  | _=>none
 | .block id a,s=>match eB C n a s with
  | some (.exit id',s')=>if id' = id then some (.normal,s') else some (.exit id',s')
  | r=>r
 | .loop a,s=>BX (eB C n a) n s
 | .exit id,s=>some (.exit id,s)
 | .ret,s=>some (.ret,s)
 | .pre m a,s=>eB C n a (m.app s)
 | .post a m,s=>match eB C n a s with
  | some (.normal,s')=>some (.normal,m.app s')
  | r=>r
theorem aFf {P:Program} {c:Code} {Q:Exit→Act→World→Prop} (G:Nat→Act→World→Prop) (zero:∀ a w,¬ G 0 a w) (round:∀ k a w,G (k + 1) a w→c.wp P (Exit.then (fun a' w'=>G k a' w') Q) a w) :
  ∀ k a w,G k a w→(Code.loop c).wp P Q a w:=by
 intro k a w hG
 have least:∀ a w,(∃ k,G k a w)→∃ k,G k a w ∧ ∀ j,G j a w→k ≤ j:=by
  intro a w ⟨k,hk⟩
  induction k using Nat.strongRecOn with
  | _ k ih =>
   by_cases h:∃ j,j < k ∧ G j a w
   ·obtain ⟨j,hj,hg⟩:=h; exact ih j hj hg
   ·exact ⟨k,hk,fun j hj=>Nat.le_of_not_lt fun hlt=>h ⟨j,hlt,hj⟩⟩
 refine wp_loop (fun a w=>∃ k,G k a w) (fun a w=>@dite _ (∃ k,G k a w) (Classical.propDecidable _) (fun h=>(least a w h).choose) (fun _=>0)) ⟨k,hG⟩ ?_
 intro a w hI
 have hsp:=(least a w hI).choose_spec
 generalize hk0:(least a w hI).choose = k0 at hsp
 obtain ⟨g1,g2⟩:=hsp
 cases k0 with
 | zero=>exact absurd g1 (zero a w)
 | succ k1 =>
  refine wp_mono (round k1 a w g1) fun e a' w' hq=>?_
  cases e with
  | normal =>
   refine ⟨⟨k1,hq⟩,?_⟩
   have hI' : ∃ k,G k a' w':=⟨k1,hq⟩
   have h2:=(least a' w' hI').choose_spec.2 k1 hq
   simp only [dif_pos hI',dif_pos hI,hk0]
   omega
  | _=>exact hq
section
variable {P:Program} {nt:Nat} {w0:World} {h0:Hp} {C:Nat→List D→Option D}
theorem aHQ (hC:∀ f ds x,C f ds = some x→rZ P f ds x) (hm:P.follows .mixedOrders = true) (n:Nat):∀ (sc:bB) (c:Code) (s s' : St) (ex:Ex) (a:Act) (w:World) (h:Hp) (hd:Nat→Value) (Q:Exit→Act→World→Prop),
  HM P nt c = some sc.bare→eB C n sc s = some (ex,s')→Rl nt w0 h0 s.get s.blk a w h hd→(∀ a' w' h' hd',Rl nt w0 h0 s'.get s'.blk a' w' h' hd'→Q ex.go a' w')→c.wp P Q a w:=by
 intro sc
 induction sc with
 | skip =>
  intro c s s' ex a w h hd Q hl he r hQ
  cases c <;> simp only [HM,bB.bare] at hl
  case skip=>simp only [eB,Option.some.injEq,Prod.mk.injEq] at he; obtain ⟨rfl,rfl⟩:=he; exact wp_skip (hQ _ _ _ _ r)
  case region=>split at hl <;> first | (cases hl; done) | skip; split at hl <;> first | (cases hl; done) | skip; split at hl <;> cases hl
  case seq=>split at hl <;> cases hl
  case cond=>split at hl <;> cases hl
  case block=>rw [Option.map_eq_some_iff] at hl; obtain ⟨_,_,e⟩:=hl; cases e
  case loop=>rw [Option.map_eq_some_iff] at hl; obtain ⟨_,_,e⟩:=hl; cases e
  all_goals cases hl
 | region ops draw =>
  intro c s s' ex a w h hd Q hl he r hQ
  cases c <;> simp only [HM,bB.bare] at hl
  case region id rops dr =>
   split at hl
   ·cases hl
   ·rename_i l hlow
    simp only [eB] at he
    split at he
    ·rename_i s1 h1
     cases he
     split at hl
     ·rename_i hdr
      split at hl
      ·rename_i hok
       cases hl
       subst hdr
       exact QP hC hm hlow (draw:=true) (by simp [hok]) h1 r hQ
      ·cases hl
     ·rename_i hdr
      cases hl
      have:dr = false:=by simpa using hdr
      subst this
      exact QP hC hm hlow (draw:=false) (by simp) h1 r hQ
    ·cases he
  case seq=>split at hl <;> cases hl
  case cond=>split at hl <;> cases hl
  case block=>rw [Option.map_eq_some_iff] at hl; obtain ⟨_,_,e⟩:=hl; cases e
  case loop=>rw [Option.map_eq_some_iff] at hl; obtain ⟨_,_,e⟩:=hl; cases e
  all_goals cases hl
 | seq x y ihx ihy =>
  intro c s s' ex a w h hd Q hl he r hQ
  cases c <;> simp only [HM,bB.bare] at hl
  case region=>split at hl <;> first | (cases hl; done) | skip; split at hl <;> first | (cases hl; done) | skip; split at hl <;> cases hl
  case seq ca cb =>
   split at hl
   ·rename_i l1 l2 h1 h2
    cases hl
    refine wp_seq ?_
    simp only [eB] at he
    split at he
    ·rename_i s1 he1
     exact ihx ca s s1 .normal a w h hd _ h1 he1 r fun a' w' h' hd' r'=>ihy cb s1 s' ex a' w' h' hd' Q h2 he r' hQ
    ·rename_i hne
     refine ihx ca s s' ex a w h hd _ h1 he r fun a' w' h' hd' r'=>?_
     cases ex with
     | normal=>exact absurd he (hne _)
     | exit id=>exact hQ _ _ _ _ r'
     | ret=>exact hQ _ _ _ _ r'
   ·cases hl
  case cond=>split at hl <;> cases hl
  case block=>rw [Option.map_eq_some_iff] at hl; obtain ⟨_,_,e⟩:=hl; cases e
  case loop=>rw [Option.map_eq_some_iff] at hl; obtain ⟨_,_,e⟩:=hl; cases e
  all_goals cases hl
 | cond c x y ihx ihy =>
  intro cc s s' ex a w h hd Q hl he r hQ
  cases cc <;> simp only [HM,bB.bare] at hl
  case region=>split at hl <;> first | (cases hl; done) | skip; split at hl <;> first | (cases hl; done) | skip; split at hl <;> cases hl
  case seq=>split at hl <;> cases hl
  case cond co ca cb =>
   split at hl
   ·rename_i l0 l1 l2 h1 h2 h3
    cases hl
    have hc:=dZ r.frame h1
    simp only [eB] at he
    split at he
    ·rename_i hb
     rw [hb] at hc
     exact wp_cond_true (tU hc) (ihx ca s s' ex a w h hd Q h2 he r hQ)
    ·rename_i hb
     rw [hb] at hc
     exact wp_cond_false (tU hc) (ihy cb s s' ex a w h hd Q h3 he r hQ)
    ·cases he
   ·cases hl
  case block=>rw [Option.map_eq_some_iff] at hl; obtain ⟨_,_,e⟩:=hl; cases e
  case loop=>rw [Option.map_eq_some_iff] at hl; obtain ⟨_,_,e⟩:=hl; cases e
  all_goals cases hl
 | block id x ih =>
  intro c s s' ex a w h hd Q hl he r hQ
  cases c <;> simp only [HM,bB.bare] at hl
  case region=>split at hl <;> first | (cases hl; done) | skip; split at hl <;> first | (cases hl; done) | skip; split at hl <;> cases hl
  case seq=>split at hl <;> cases hl
  case cond=>split at hl <;> cases hl
  case block id' ca =>
   rw [Option.map_eq_some_iff] at hl
   obtain ⟨l1,h1,e⟩:=hl
   cases e
   refine wp_block ?_
   simp only [eB] at he
   split at he
   ·rename_i id'' s1 he1
    refine ih ca s s1 (.exit id'') a w h hd _ h1 he1 r fun a' w' h' hd' r'=>?_
    simp only [Ex.go,Exit.inBlock]
    split at he
    ·rename_i hid
     cases he
     rw [if_pos hid]
     exact hQ _ _ _ _ r'
    ·rename_i hid
     cases he
     rw [if_neg hid]
     exact hQ _ _ _ _ r'
   ·rename_i hne
    refine ih ca s s' ex a w h hd _ h1 he r fun a' w' h' hd' r'=>?_
    cases ex with
    | normal=>exact hQ _ _ _ _ r'
    | exit id=>exact absurd he (hne _ _)
    | ret=>exact hQ _ _ _ _ r'
  case loop=>rw [Option.map_eq_some_iff] at hl; obtain ⟨_,_,e⟩:=hl; cases e
  all_goals cases hl
 | loop x ih =>
  intro c s s' ex a w h hd Q hl he r hQ
  cases c <;> simp only [HM,bB.bare] at hl
  case region=>split at hl <;> first | (cases hl; done) | skip; split at hl <;> first | (cases hl; done) | skip; split at hl <;> cases hl
  case seq=>split at hl <;> cases hl
  case cond=>split at hl <;> cases hl
  case block=>rw [Option.map_eq_some_iff] at hl; obtain ⟨_,_,e⟩:=hl; cases e
  case loop ca =>
   rw [Option.map_eq_some_iff] at hl
   obtain ⟨l1,h1,e⟩:=hl
   cases e
   simp only [eB] at he
   refine aFf (fun k a w=>∃ s h hd,BX (eB C n x) k s = some (ex,s') ∧ Rl nt w0 h0 s.get s.blk a w h hd) (fun a w ⟨s,h,hd,q,_⟩=>by simp [BX] at q) ?_ n a w ⟨s,h,hd,he,r⟩
   rintro k a w ⟨s,h,hd,q,r⟩
   simp only [BX] at q
   split at q
   ·rename_i s1 he1
    exact ih ca s s1 .normal a w h hd _ h1 he1 r fun a' w' h' hd' r'=>⟨s1,h',hd',q,r'⟩
   ·rename_i hne
    refine ih ca s s' ex a w h hd _ h1 q r fun a' w' h' hd' r'=>?_
    cases ex with
    | normal=>exact absurd q (hne _)
    | exit id=>exact hQ _ _ _ _ r'
    | ret=>exact hQ _ _ _ _ r'
  all_goals cases hl
 | exit id =>
  intro c s s' ex a w h hd Q hl he r hQ
  cases c <;> simp only [HM,bB.bare] at hl
  case region=>split at hl <;> first | (cases hl; done) | skip; split at hl <;> first | (cases hl; done) | skip; split at hl <;> cases hl
  case seq=>split at hl <;> cases hl
  case cond=>split at hl <;> cases hl
  case block=>rw [Option.map_eq_some_iff] at hl; obtain ⟨_,_,e⟩:=hl; cases e
  case loop=>rw [Option.map_eq_some_iff] at hl; obtain ⟨_,_,e⟩:=hl; cases e
  case exit=>cases hl; simp only [eB,Option.some.injEq,Prod.mk.injEq] at he; obtain ⟨rfl,rfl⟩:=he; exact wp_exit (hQ _ _ _ _ r)
  all_goals cases hl
 | ret =>
  intro c s s' ex a w h hd Q hl he r hQ
  cases c <;> simp only [HM,bB.bare] at hl
  case region=>split at hl <;> first | (cases hl; done) | skip; split at hl <;> first | (cases hl; done) | skip; split at hl <;> cases hl
  case seq=>split at hl <;> cases hl
  case cond=>split at hl <;> cases hl
  case block=>rw [Option.map_eq_some_iff] at hl; obtain ⟨_,_,e⟩:=hl; cases e
  case loop=>rw [Option.map_eq_some_iff] at hl; obtain ⟨_,_,e⟩:=hl; cases e
  case ret=>simp only [eB,Option.some.injEq,Prod.mk.injEq] at he; obtain ⟨rfl,rfl⟩:=he; exact wp_ret (hQ _ _ _ _ r)
  all_goals cases hl
 | pre m x ih =>
  intro c s s' ex a w h hd Q hl he r hQ
  simp only [bB.bare] at hl
  simp only [eB] at he
  obtain ⟨h',hd',r'⟩:=YW r m
  exact ih c _ s' ex a w h' hd' Q hl he r' hQ
 | post x m ih =>
  intro c s s' ex a w h hd Q hl he r hQ
  simp only [bB.bare] at hl
  simp only [eB] at he
  split at he
  ·rename_i s1 he1
   cases he
   refine ih c s s1 .normal a w h hd Q hl he1 r fun a' w' h' hd' r'=>?_
   obtain ⟨h'',hd'',r''⟩:=YW r' m
   exact hQ _ _ _ _ r''
  ·rename_i hne
   exact ih c s s' ex a w h hd Q hl he r hQ
end
end Vm
end Go.Proofs.Ytfhebiceipgdmaa
set_option linter.unusedVariables false
namespace Go.Proofs.Ytfhebiceipgdmaa
namespace Vm
open Go.RowKit
def aGv:D→V
 | .tup _=>.any
 | x=>aFU x
def rN:Nat→List D→List (Nat × V)
 | _,[]=>[]
 | i,d :: ds=>(i,aGv d) :: rN (i + 1) ds
def BN (s:St):AE→Option V
 | .tmp t=>some (s.get t)
 | .cell t size isAgg=>match fP (fun _ _=>none) 0 (fun _=>s.get t) s.blk (.load size isAgg (.t t)) with
  | some (v,_)=>some v
  | none=>none
def aJb (bl:Nat→Option aY):V→List Nat
 | .own id ver=>match bl id with
  | some (.rows v _ _ _)=>if ver = v then [id] else []
  | _=>[]
 | _=>[]
def aDT (bl:Nat→Option aY):V→List Nat
 | .agg cs=>cs.flatMap (aJb bl)
 | v=>aJb bl v
def K4 (bl:Nat→Option aY):V→List Nat
 | .tup vs=>vs.flatMap (aDT bl)
 | v=>aDT bl v
def aGL:List Nat→Nat→Option Nat
 | [],_=>none
 | a :: l,x=>if a = x then some 0 else (aGL l x).map (· + 1)
def inN:List Nat→Nat→Bool
 | [],_=>false
 | a :: l,x=>if a = x then true else inN l x
def RB:List Nat→Bool
 | []=>true
 | a :: l=>if inN l a = true then false else RB l
def aEW (bl:Nat→Option aY) (ids:List Nat):V→Option D
 | .d x=>some x
 | .nil=>some (.sl [])
 | .own id ver=>match bl id with
  | some (.rows v _ _ _)=>if ver = v then (aGL ids id).map .ref else none
  | some (.froz v rows)=>if ver = v then some (.sl rows) else none
  | _=>none
 | _=>none
def aAg (bl:Nat→Option aY) (ids:List Nat):V→Option D
 | .agg cs=>(bY (aEW bl ids) cs).map .agg
 | v=>aEW bl ids v
def toR (bl:Nat→Option aY) (ids:List Nat):V→Option D
 | .tup vs=>(bY (aAg bl ids) vs).map .tup
 | v=>aAg bl ids v
def aF5 (bl:Nat→Option aY) (id:Nat):Option (Nat × Nat):=match bl id with
 | some (.rows _ e size _)=>some (e,size)
 | _=>none
def aKw (bl:Nat→Option aY) (id:Nat):Option (List (List D)):=match bl id with
 | some (.rows _ _ _ rows)=>some rows
 | _=>none
def uP (bl:Nat→Option aY) (v:V):Option D :=
 if RB (K4 bl v) = true then
  match toR bl (K4 bl v) v,bY (aF5 bl) (K4 bl v),bY (aKw bl) (K4 bl v) with
  | some x,some es,some rs=>some (.own x es rs)
  | _,_,_=>none
 else none
def GX (sf:cQ) (s:St):Option D:=match bY (BN s) sf.results with
 | none=>none
 | some [v]=>if sf.fresh = true then uP s.blk v else nR s.blk v
 | some vs=>if sf.fresh = true then uP s.blk (.tup vs) else toD s.blk (.tup vs)
inductive Def where
 | code (sf:cQ)
 | told (o:List D→Option D)
abbrev FU:=Nat→Option Def
def nT (T:FU):Nat→Nat→List D→Option D
 | 0,_,_=>none
 | n + 1,f,args=>match T f with
  | none=>none
  | some (.told o)=>o args
  | some (.code sf)=>if args.length = sf.np then match eB (nT T n) n sf.body ⟨rN 0 args,[]⟩ with
    | some (.normal,s)=>GX sf s
    | some (.ret,s)=>GX sf s
    | _=>none
   else none
theorem NB:∀ (l:List D) (i t:Nat),lk (rN i l) .any t = if i ≤ t then (match l[t - i]? with | some d=>aGv d | none=>.any) else .any
 | [],i,t=>by simp [rN,lk]
 | d :: l,i,t=>by
  simp only [rN,lk,NB l (i + 1) t]
  by_cases e:t = i
  ·subst e; simp
  ·rw [if_neg e]
   by_cases h:i + 1 ≤ t
   ·rw [if_pos h,if_pos (by omega)]
    have:t - i = (t - (i + 1)) + 1:=by omega
    rw [this,List.getElem?_cons_succ]
   ·rw [if_neg h,if_neg (by omega)]
section
variable {P:Program}
theorem aH1 {h:Hp} {hd:Nat→Value} {bl:Nat→Option aY} {v:Value} {d:D} (r:cJ h v d):R3 h hd bl v (aGv d):=by
 cases d with
 | tup vs=>trivial
 | agg cs=>exact R3.of2 (xM r (fun vs e=>by cases e))
 | int k n=>exact R3.of2 (xM r (fun vs e=>by cases e))
 | bool b=>exact R3.of2 (xM r (fun vs e=>by cases e))
 | str s=>exact R3.of2 (xM r (fun vs e=>by cases e))
 | sl rows=>exact R3.of2 (xM r (fun vs e=>by cases e))
 | ptr row off=>exact R3.of2 (xM r (fun vs e=>by cases e))
 | fn f caps=>exact R3.of2 (xM r (fun vs e=>by cases e))
 | np=>exact R3.of2 (xM r (fun vs e=>by cases e))
 | ref n=>cases r
 | own x es rs=>cases r
theorem IW {nt:Nat} {w0 w:World} {h0 h:Hp} {s:St} {a:Act} {hd:Nat→Value} (r:Rl nt w0 h0 s.get s.blk a w h hd):∀ (l:List ResultVar) (rs:List AE) (vs:List V),bY (aGZ P) l = some rs→bY (BN s) rs = some vs →
  ∃ cvs:List Value,(l.mapM fun x=>(match x with | .tmp t=>pure (a.tmps.getD t undef) | .cell b t=>do loadVar t (← asAddr (a.tmps.getD b undef)):Sem Value)).run P w = .ok cvs w ∧ cvs.length = vs.length ∧ ∀ (j:Nat) (x:V),vs[j]? = some x→R3 h hd s.blk (cvs.getD j undef) x
 | [],rs,vs,h1,h2=>by
  simp only [bY,Option.some.injEq] at h1
  subst h1
  simp only [bY,Option.some.injEq] at h2
  subst h2
  exact ⟨[],by simp,rfl,fun j x hx=>by simp at hx⟩
 | x :: l,rs,vs,h1,h2=>by
  simp only [bY] at h1
  split at h1
  ·cases h1
  ·rename_i y hy
   split at h1
   ·cases h1
   ·rename_i ys hys
    cases h1
    simp only [bY] at h2
    split at h2
    ·cases h2
    ·rename_i v hv
     split at h2
     ·cases h2
     ·rename_i us hus
      cases h2
      obtain ⟨cvs,g1,g2,g3⟩:=IW r l ys us hys hus
      have hone:∃ cv,((match x with | .tmp t=>pure (a.tmps.getD t undef) | .cell b t=>do loadVar t (← asAddr (a.tmps.getD b undef)):Sem Value)).run P w = .ok cv w ∧ R3 h hd s.blk cv v:=by
       cases x with
       | tmp t =>
        simp only [aGZ,Option.some.injEq] at hy
        subst hy
        simp only [BN,Option.some.injEq] at hv
        subst hv
        exact ⟨_,rfl,r.frame t⟩
       | cell b t =>
        simp only [aGZ] at hy
        split at hy
        ·rename_i ag i hag hi
         cases hy
         simp only [BN] at hv
         split at hv
         ·rename_i v' wr hload
          cases hv
          have:=Y8 (P:=P) (C:=fun _ _=>none) (site:=0) (x:=.t b) (xv:=a.tmps.getD b undef) r hag hi (r.frame b) (v:=v) (wr:=wr) (by simpa [fP,dL] using hload)
          obtain ⟨_,cv,q1,q2⟩:=this
          refine ⟨cv,?_,q2⟩
          cases hp:a.tmps.getD b undef <;> rw [hp] at q1 <;> first | (simp [Instr.loadAt,Instr.sureAddr] at q1; done) | skip
          rename_i ao
          cases ao with
          | none=>simp [Instr.loadAt,Instr.sureAddr] at q1
          | some ad =>
           have hp' : a.tmps[b]?.getD undef = .pointer (some ad):=by simpa using hp
           simpa [Instr.loadAt,Instr.sureAddr,asAddr,hp'] using q1
         ·cases hv
        ·cases hy
      obtain ⟨cv,q1,q2⟩:=hone
      refine ⟨cv :: cvs,?_,by simp [g2],fun j z hz=>?_⟩
      ·rw [List.mapM_cons]
       simp only [Sem.run_bind,q1,Result.andThen_ok,g1,Sem.run_pure]
      ·cases j with
       | zero=>simp at hz; subst hz; simpa using q2
       | succ j=>simpa using g3 j z (by simpa using hz)
theorem cJ.toF {base:Nat} {w:World} {h:Hp} {v:Value} {x:D} (r:cJ h v x):I0 base w h v x:=by
 cases x <;> first | exact r | (cases r; done)
theorem XH {bl:Nat→Option aY} {vs:List V} {x:D} (e:uP bl (.tup vs) = some x) {j:Nat} {z:V} (hz:vs[j]? = some z):∃ y,aAg bl (K4 bl (.tup vs)) z = some y:=by
 unfold uP at e
 split at e
 ·split at e
  ·rename_i y es rs hy hes hrs
   simp only [toR,Option.map_eq_some_iff] at hy
   obtain ⟨ds,hm,_⟩:=hy
   obtain ⟨y,_,h2⟩:=(dI hm).2 j z hz
   exact ⟨y,h2⟩
  ·cases e
 ·cases e
theorem QL:∀ {l:List Nat} {x n:Nat},aGL l x = some n→l[n]? = some x
 | [],x,n,e=>by cases e
 | a :: l,x,n,e=>by
  simp only [aGL] at e
  split at e
  ·rename_i hx; cases e; simp [hx]
  ·rw [Option.map_eq_some_iff] at e
   obtain ⟨m,h1,rfl⟩:=e
   simpa using QL h1
theorem K0:∀ {l:List Nat} {x:Nat},inN l x = false→∀ n:Nat,l[n]? ≠ some x
 | [],x,_,n=>by simp
 | a :: l,x,e,n=>by
  simp only [inN] at e
  split at e
  ·cases e
  ·rename_i hx
   cases n with
   | zero=>simpa using hx
   | succ n=>simpa using K0 e n
theorem NV:∀ {l:List Nat},RB l = true→∀ {n m x:Nat},l[n]? = some x→l[m]? = some x→n = m
 | [],_,n,m,x,h1,h2=>by simp at h1
 | a :: l,e,n,m,x,h1,h2=>by
  simp only [RB] at e
  split at e
  ·cases e
  ·rename_i hx
   have hx:inN l a = false:=by simpa using hx
   cases n with
   | zero=>cases m with
    | zero=>rfl
    | succ m=>simp at h1 h2; subst h1; exact absurd h2 (K0 hx m)
   | succ n=>cases m with
    | zero=>simp at h1 h2; subst h2; exact absurd h1 (K0 hx n)
    | succ m=>simp at h1 h2; rw [NV e h1 h2]
theorem aCu {site n m:Nat} (e:DJ site n = DJ site m):n = m:=by unfold DJ at e; omega
theorem aAA (site n:Nat):(DJ site n - site) / 100000 - 1 = n:=by
 unfold DJ
 rw [Nat.add_sub_cancel_left,Nat.mul_div_cancel_left _ (by decide)]
 omega
theorem NF (site:Nat):∀ (es:List (Nat × Nat)) (rs:List (List (List D))) (k n:Nat) (e size:Nat) (rows:List (List D)),es[n]? = some (e,size)→rs[n]? = some rows→lk (m9 site k es rs) none (DJ site (k + n)) = some (.rows 0 e size rows)
 | [],rs,k,n,e,size,rows,h1,h2=>by simp at h1
 | p :: es,[],k,n,e,size,rows,h1,h2=>by simp at h2
 | (e',s') :: es,r :: rs,k,n,e,size,rows,h1,h2=>by
  simp only [m9,lk]
  cases n with
  | zero=>simp at h1 h2; simp [h1,h2]
  | succ n =>
   rw [if_neg (fun q=>by have:=aCu q; omega),show k + (n + 1) = (k + 1) + n by omega]
   exact NF site es rs (k + 1) n e size rows (by simpa using h1) (by simpa using h2)
theorem J6 (site:Nat):∀ (es:List (Nat × Nat)) (rs:List (List (List D))) (k id:Nat) (b:aY),lk (m9 site k es rs) none id = some b→∃ n e size rows,id = DJ site (k + n) ∧ es[n]? = some (e,size) ∧ rs[n]? = some rows ∧ b = .rows 0 e size rows
 | [],rs,k,id,b,h=>by simp [m9,lk] at h
 | p :: es,[],k,id,b,h=>by simp [m9,lk] at h
 | (e',s') :: es,r :: rs,k,id,b,h=>by
  simp only [m9,lk] at h
  split at h
  ·rename_i hi
   cases h
   exact ⟨0,e',s',r,hi,rfl,rfl,rfl⟩
  ·obtain ⟨n,e,size,rows,h1,h2,h3,h4⟩:=J6 site es rs (k + 1) id b h
   exact ⟨n + 1,e,size,rows,by rw [h1,show k + 1 + n = k + (n + 1) by omega],by simpa using h2,by simpa using h3,h4⟩
theorem aA0 {bl:Nat→Option aY} {id e size:Nat} (h:aF5 bl id = some (e,size)):∃ v rows,bl id = some (.rows v e size rows):=by
 unfold aF5 at h
 split at h
 ·rename_i v e' s' rows hb; cases h; exact ⟨v,rows,hb⟩
 ·cases h
section
variable {nt:Nat} {w0 w:World} {h0 h:Hp} {fr:Nat→V} {bl:Nat→Option aY} {a:Act} {hd hd0:Nat→Value} {nb:Nat→Option aY} {ids:List Nat} {site:Nat}
theorem Z4 (r:Rl nt w0 h0 fr bl a w h hd) (hnew:∀ n id v e s rows,ids[n]? = some id→bl id = some (.rows v e s rows)→nb (DJ site n) = some (.rows 0 e s rows)) (hhd:∀ n id,ids[n]? = some id→hd0 (DJ site n) = hd id)
  {u:Value} {z:V} (hu:R1 h hd bl u z) {d:D} (e:aEW bl ids z = some d):R1 h hd0 nb u (aEb site d) ∧ d.atom = true:=by
 cases z with
 | d x =>
  cases e
  obtain ⟨g1,g2⟩:=hu
  refine ⟨?_,g1⟩
  cases d <;> first | exact ⟨g1,g2⟩ | (cases g2; done)
 | nil =>
  cases e
  exact ⟨⟨rfl,by rw [show u = _ from hu]; exact .sl0 none 0 (fun _=>rfl)⟩,rfl⟩
 | own id ver =>
  obtain ⟨b,c,hb,hc,hle,h1,he⟩:=hu
  simp only [aEW,hb] at e
  cases b with
  | rows v e' s rows =>
   simp only at e
   split at e
   ·rename_i hv
    rw [Option.map_eq_some_iff] at e
    obtain ⟨n,hn,rfl⟩:=e
    have hi:=QL hn
    refine ⟨⟨_,0,hnew n id v e' s rows hi hb,rfl,Nat.le_refl _,h1,fun _=>?_⟩,rfl⟩
    rw [hhd n id hi]
    exact he (by simp only [aY.ver?,Option.some.injEq] at hc; omega)
   ·cases e
  | froz v rows =>
   simp only at e
   split at e
   ·rename_i hv
    cases e
    refine ⟨⟨rfl,?_⟩,rfl⟩
    rw [he (by simp only [aY.ver?,Option.some.injEq] at hc; omega)]
    exact r.blk id _ hb
   ·cases e
  | _=>cases e
 | _=>cases e
theorem ZI (r:Rl nt w0 h0 fr bl a w h hd) (hnew:∀ n id v e s rows,ids[n]? = some id→bl id = some (.rows v e s rows)→nb (DJ site n) = some (.rows 0 e s rows)) (hhd:∀ n id,ids[n]? = some id→hd0 (DJ site n) = hd id)
  {u:Value} {z:V} (hu:R2 h hd bl u z) {d:D} (e:aAg bl ids z = some d):R2 h hd0 nb u (Z3 site d) ∧ d.noTup = true:=by
 have one:R1 h hd bl u z→aEW bl ids z = some d→R2 h hd0 nb u (Z3 site d) ∧ d.noTup = true:=fun q1 q2=>by
  obtain ⟨g1,g2⟩:=Z4 r hnew hhd q1 q2
  cases d <;> first | (cases g2; done) | exact ⟨R2.of1 g1,rfl⟩
 cases z with
 | agg cs =>
  obtain ⟨arr,rfl,hl,hc⟩:=hu
  simp only [aAg,Option.map_eq_some_iff] at e
  obtain ⟨ds,hm,rfl⟩:=e
  obtain ⟨m1,m2⟩:=dI hm
  refine ⟨⟨arr,rfl,by simp; omega,fun j x hx=>?_⟩,rfl⟩
  rw [List.getElem?_map,Option.map_eq_some_iff] at hx
  obtain ⟨y,hy,rfl⟩:=hx
  obtain ⟨z,z1,z2⟩:=fO hm hy
  exact ⟨(Z4 r hnew hhd (hc j z z1).1 z2).1,(hc j z z1).2⟩
 | _=>exact one hu e
theorem aJy (r:Rl nt w0 h0 fr bl a w h hd) (hnew:∀ n id v e s rows,ids[n]? = some id→bl id = some (.rows v e s rows)→nb (DJ site n) = some (.rows 0 e s rows)) (hhd:∀ n id,ids[n]? = some id→hd0 (DJ site n) = hd id)
  {u:Value} {z:V} (hu:R3 h hd bl u z) {d:D} (e:toR bl ids z = some d):R3 h hd0 nb u (thaw site d):=by
 have one:R2 h hd bl u z→aAg bl ids z = some d→R3 h hd0 nb u (thaw site d):=fun q1 q2=>by
  obtain ⟨g1,g2⟩:=ZI r hnew hhd q1 q2
  cases d <;> first | (cases g2; done) | exact R3.of2 g1
 cases z with
 | tup vs =>
  obtain ⟨arr,rfl,hl,hc⟩:=hu
  simp only [toR,Option.map_eq_some_iff] at e
  obtain ⟨ds,hm,rfl⟩:=e
  obtain ⟨m1,m2⟩:=dI hm
  refine ⟨arr,rfl,by simp; omega,fun j x hx=>?_⟩
  rw [List.getElem?_map,Option.map_eq_some_iff] at hx
  obtain ⟨y,hy,rfl⟩:=hx
  obtain ⟨z,z1,z2⟩:=fO hm hy
  exact (ZI r hnew hhd (hc j z z1) z2).1
 | _=>exact one hu e
theorem T9 (r:Rl nt w0 h0 fr bl a w h hd) {cv:Value} {v:V} (hv:R3 h hd bl cv v) {x:D} (e:uP bl v = some x):I0 w0.heap.size w h cv x:=by
 unfold uP at e
 split at e
 ·rename_i hnd
  split at e
  ·rename_i y es rs hy hes hrs
   cases e
   intro site
   generalize hids:K4 bl v = ids at hnd hy hes hrs
   have hhd:∀ n id,ids[n]? = some id→(fun i=>hd (ids.getD ((i - site) / 100000 - 1) 0)) (DJ site n) = hd id:=fun n id hn=>by
    simp only [aAA,List.getD_eq_getElem?_getD,hn,Option.getD_some]
   have hE:=dI hes
   have hR:=dI hrs
   have hnew:∀ n id v e s rows,ids[n]? = some id→bl id = some (.rows v e s rows)→OV site es rs (DJ site n) = some (.rows 0 e s rows):=fun n id v e s rows hn hb=>by
    obtain ⟨y1,g1,g2⟩:=hE.2 n id hn
    obtain ⟨y2,g3,g4⟩:=hR.2 n id hn
    simp only [aF5,aKw,hb,Option.some.injEq] at g2 g4
    subst g2; subst g4
    have:=NF site es rs 0 n e s rows g1 g3
    rw [Nat.zero_add] at this
    exact this
   have hback:∀ i b,OV site es rs i = some b→∃ n id ver e size rows,i = DJ site n ∧ ids[n]? = some id ∧ bl id = some (.rows ver e size rows) ∧ b = .rows 0 e size rows:=fun i b hb=>by
    obtain ⟨n,e,size,rows,h1,h2,h3,h4⟩:=J6 site es rs 0 i b hb
    obtain ⟨id,g1,g2⟩:=fO hes h2
    obtain ⟨ver,rows',g3⟩:=aA0 g2
    obtain ⟨y2,g4,g5⟩:=hR.2 n id g1
    simp only [aKw,g3,Option.some.injEq] at g5
    rw [h3] at g4
    cases g4
    subst g5
    exact ⟨n,id,ver,e,size,rows',by rw [h1,Nat.zero_add],g1,g3,h4⟩
   refine ⟨fun i=>hd (ids.getD ((i - site) / 100000 - 1) 0),aJy r hnew hhd hv hy,fun i b hb=>?_,fun i j bi bj g hi hj gi gj=>?_⟩
   ·obtain ⟨n,id,ver,e,size,rows,rfl,h2,h3,rfl⟩:=hback i b hb
    have hb':=r.blk id _ h3
    obtain ⟨k1,k2,⟨xs,k3,k4⟩,k5⟩:=hb'
    have hh:=hhd n id h2
    exact ⟨k1,k2,⟨xs,by rw [hh]; exact k3,k4⟩,by rw [hh]; exact k5⟩
   ·obtain ⟨n,id,ver,e,size,rows,rfl,h2,h3,rfl⟩:=hback i bi hi
    obtain ⟨m,id',ver',e',size',rows',rfl,h2',h3',rfl⟩:=hback j bj hj
    rw [hhd n id h2] at gi
    rw [hhd m id' h2'] at gj
    have:=r.sep id id' _ _ g h3 h3' rfl rfl gi gj
    subst this
    rw [NV hnd h2 h2']
  ·cases e
 ·cases e
end
theorem aAa (T:FU) (hT:∀ f sf,T f = some (.code sf)→∃ fn,P.funcs[f]? = some fn ∧ eW P fn sf) (hO:∀ f o,T f = some (.told o)→∀ ds x,o ds = some x→rZ P f ds x) (hm:P.follows .mixedOrders = true):∀ (n f:Nat) (ds:List D) (x:D),nT T n f ds = some x→rZ P f ds x
 | 0,f,ds,x,e=>by cases e
 | n + 1,f,ds,x,e=>by
  simp only [nT] at e
  split at e
  ·cases e
  ·rename_i o ho
   exact hO f o ho ds x e
  ·rename_i sf hsf
   split at e
   ·rename_i hnp
    obtain ⟨fn,hfn,l1,l2,l3,l4,l5,c,l6,l7⟩:=hT f sf hsf
    have hfin:∃ ex s,eB (nT T n) n sf.body ⟨rN 0 ds,[]⟩ = some (ex,s) ∧ GX sf s = some x ∧ (ex = .normal ∨ ex = .ret):=by
     split at e
     ·rename_i s hs; exact ⟨_,s,hs,e,.inl rfl⟩
     ·rename_i s hs; exact ⟨_,s,hs,e,.inr rfl⟩
     ·cases e
    obtain ⟨ex,s,hev,hfs,hex⟩:=hfin
    refine ⟨⟨fn,hfn,l2,by rw [l6]; rfl⟩,?_⟩
    intro w h vs hle hvs hrd
    refine calls_of_wp hfn l6 ?_
    have hvsz:vs.size = sf.np:=by omega
    have r0:Rl sf.nt w h (⟨rN 0 ds,[]⟩ : St).get (⟨rN 0 ds,[]⟩ : St).blk { tmps:=vs ++ Array.replicate (fn.ntmps - vs.size) undef,defers:=[] } w h (fun _=>undef):={
     tmps:=by simp; omega
     defers:=rfl
     below:=Below.refl _ _
     hle:=hle
     h0le:=Hp.le.refl _
     hbase:=fun _ _=>rfl
     frame:=fun t=>by
      have e1:(⟨rN 0 ds,[]⟩ : St).get t = (match ds[t]? with | some d=>aGv d | none=>.any):=by
       have:=NB ds 0 t
       simpa [St.get] using this
      rw [e1]
      cases hd:ds[t]? with
      | none=>trivial
      | some d =>
       have hlt:t < vs.size:=by rw [hvs]; exact (List.getElem?_eq_some_iff.1 hd).1
       have e2:(vs ++ Array.replicate (fn.ntmps - vs.size) undef).getD t undef = vs.getD t undef:=by
        simp only [Array.getD_eq_getD_getElem?]
        rw [Array.getElem?_append_left hlt]
       simp only [e2]
       exact aH1 (hrd t d hd)
     blk:=fun id b hb=>by simp [St.blk,lk] at hb
     sep:=fun i j bi bj g hi=>by simp [St.blk,lk] at hi }
    refine aHQ (aAa T hT hO hm n) hm n sf.body c _ s ex _ w h _ _ l7 hev r0 fun a' w' h' hd' r'=>?_
    have key:a'.defers = [] ∧ ∃ v,(results fn a'.tmps).run P w' = .ok v w' ∧ ∃ v' h'',(Ending.returned v) = .returned v' ∧ I0 w.heap.size w' h'' v' x ∧ h.le h'' ∧ h''.le (hw w') ∧ (∀ b,b < w.heap.size→h'' b = h b) ∧ Below w.heap.size w w':=by
     refine ⟨r'.defers,?_⟩
     unfold GX at hfs
     split at hfs
     ·cases hfs
     ·rename_i v hres
      obtain ⟨cvs,g1,g2,g3⟩:=IW r' fn.results.toList sf.results [v] l5 hres
      match cvs,g2 with
      | [cv],_ =>
       have hv:R3 h' hd' s.blk cv v:=by simpa using g3 0 v rfl
       have hrun:(results fn a'.tmps).run P w' = .ok cv w':=by
        unfold results
        rw [← Array.toArray_toList (xs:=fn.results),List.mapM_toArray]
        simp only [Sem.run_bind,Sem.run_map]
        erw [g1]
        simp
       split at hfs
       ·exact ⟨cv,hrun,cv,h',rfl,T9 r' hv hfs,r'.h0le,r'.hle,r'.hbase,r'.below⟩
       have hrd:cJ (IB w' h' hd' (yB s.blk v)) cv x:=wD r' _ (by cases v <;> first | exact hv | cases hfs) hfs (fun p hp=>hp)
       exact ⟨cv,hrun,cv,IB w' h' hd' (yB s.blk v),rfl,hrd.toF,r'.h0le.trans (AF r' _),NS r' _,fun b hb=>(NP r' _ (YB v) b hb).trans (r'.hbase b hb),r'.below⟩
     ·rename_i vs' hne hres
      obtain ⟨cvs,g1,g2,g3⟩:=IW r' fn.results.toList sf.results vs' l5 hres
      have hne1:cvs.length ≠ 1:=by
       intro h1
       rw [g2] at h1
       match vs',h1 with
       | [v],_=>exact hne v rfl
      have hrun:(results fn a'.tmps).run P w' = .ok (.tuple cvs.toArray) w':=by
       unfold results
       rw [← Array.toArray_toList (xs:=fn.results),List.mapM_toArray]
       simp only [Sem.run_bind,Sem.run_map]
       erw [g1]
       simp [hne1]
      split at hfs
      ·rename_i hfr
       have hR:R3 h' hd' s.blk (.tuple cvs.toArray) (.tup vs'):=by
        refine ⟨cvs.toArray,rfl,by simpa using g2,fun j z hz=>?_⟩
        have h3:=g3 j z hz
        have e3:cvs.toArray.getD j undef = cvs.getD j undef:=by simp
        rw [e3]
        obtain ⟨y,hy⟩:=XH hfs hz
        cases z <;> first | exact h3 | cases hy
       exact ⟨_,hrun,_,h',rfl,T9 r' hR hfs,r'.h0le,r'.hle,r'.hbase,r'.below⟩
      have hR:R3 h' hd' s.blk (.tuple cvs.toArray) (.tup vs'):=by
       simp only [toD] at hfs
       cases hm2:bY (nR s.blk) vs' with
       | none=>simp [hm2] at hfs
       | some ys =>
        refine ⟨cvs.toArray,rfl,by simpa using g2,fun j z hz=>?_⟩
        have h3:=g3 j z hz
        have e3:cvs.toArray.getD j undef = cvs.getD j undef:=by simp
        rw [e3]
        obtain ⟨y,y1,y2⟩:=(dI hm2).2 j z hz
        cases z <;> first | exact h3 | cases y2
      refine ⟨_,hrun,_,IB w' h' hd' (vs'.flatMap (yB s.blk)),rfl,(aJP r' _ hR hfs (fun p hp=>hp)).toF,r'.h0le.trans (AF r' _),NS r' _,fun b hb=>(NP r' _ ?_ b hb).trans (r'.hbase b hb),r'.below⟩
      exact yA.flatMap vs' fun z=>z
    rcases hex with rfl | rfl
    ·exact key
    ·exact key
   ·cases e
end
end Vm
end Go.Proofs.Ytfhebiceipgdmaa
set_option linter.unusedVariables false
namespace Go.Proofs.Ytfhebiceipgdmaa
namespace Vm
open Go.RowKit
noncomputable def lim {α:Type} (g:Nat→Option α):Option α:=@dite _ (∃ n x,g n = some x) (Classical.propDecidable _) (fun h=>some h.choose_spec.choose) (fun _=>none)
def aM8 {α:Type} (g:Nat→Option α):Prop:=∀ n m x,n ≤ m→g n = some x→g m = some x
theorem RF {α:Type} {g:Nat→Option α} (hg:aM8 g) {x:α}:lim g = some x ↔ ∃ n,g n = some x:=by
 unfold lim
 split
 ·rename_i h
  have hs:=h.choose_spec.choose_spec
  constructor
  ·intro e; cases e; exact ⟨_,hs⟩
  ·rintro ⟨n,hn⟩
   have h1:=hg _ (max h.choose n) _ (Nat.le_max_left _ _) hs
   have h2:=hg _ (max h.choose n) _ (Nat.le_max_right _ _) hn
   rw [h1] at h2
   exact h2
 ·rename_i h
  constructor
  ·intro e; cases e
  ·rintro ⟨n,hn⟩; exact absurd ⟨n,x,hn⟩ h
theorem xK {α:Type} {a b:Option α} (h:∀ x,a = some x ↔ b = some x):a = b:=by
 cases a with
 | none=>cases b with
  | none=>rfl
  | some y=>have:=(h y).2 rfl; cases this
 | some x=>exact ((h x).1 rfl).symm
def CLe (C D:Nat→List Vm.D→Option Vm.D):Prop:=∀ f ds x,C f ds = some x→D f ds = some x
section
variable {C C' : Nat→List D→Option D}
theorem aCP (hc:CLe C C') {site:Nat} {ev:eM→V} {bl:Nat→Option aY} {so:nS} {r:V × List (Nat × Option aY)} (e:fP C site ev bl so = some r):fP C' site ev bl so = some r:=by
 cases so with
 | call f args =>
  simp only [fP] at e ⊢
  split at e
  ·cases e
  ·split at e
   ·cases e
   ·rename_i x hx
    rw [hc _ _ _ hx]
    exact e
 | callv g args =>
  simp only [fP] at e ⊢
  split at e
  ·split at e
   ·cases e
   ·split at e
    ·cases e
    ·rename_i x hx
     rw [hc _ _ _ hx]
     exact e
  ·cases e
 | _=>exact e
theorem L2 (hc:CLe C C') {o:cG} {s:St} {r:St × Fp} (e:kJ C o s = some r):kJ C' o s = some r:=by
 unfold kJ at e ⊢
 split at e
 ·split at e
  ·rename_i v wr ha
   rw [aCP hc ha]; exact e
  ·cases e
 ·exact e
 ·cases e
theorem zR (hc:CLe C C'):∀ {l:List cG} {s:St} {r:St × List Fp},jR C l s = some r→jR C' l s = some r
 | [],s,r,e=>e
 | o :: l,s,r,e=>by
  simp only [jR] at e ⊢
  split at e
  ·rename_i s' p h1
   rw [L2 hc h1]
   split at e
   ·rename_i s'' ps h2
    simp only [zR hc h2]
    exact e
   ·cases e
  ·cases e
theorem aB1 (o:cG) (s:St):xQ C o s = (kJ C o s).map (·.1):=by
 unfold xQ kJ
 cases o.wants s.get with
 | run =>
  simp only
  cases fP C o.site (dL s.get) s.blk o.op with
  | none=>rfl
  | some r=>rfl
 | skip=>rfl
 | bad=>rfl
theorem IJ:∀ (l:List cG) (s:St),uM C l s = (jR C l s).map (·.1)
 | [],s=>rfl
 | o :: l,s=>by
  simp only [uM,jR,aB1]
  cases kJ C o s with
  | none=>rfl
  | some r =>
   obtain ⟨s',p⟩:=r
   simp only [Option.map_some,IJ l s']
   cases jR C l s' with
   | none=>rfl
   | some q=>rfl
theorem GN (hc:CLe C C') {l:List cG} {d:Option (List (Nat × Nat))} {s s' : St} (e:iH C l d s = some s'):iH C' l d s = some s':=by
 cases d with
 | none =>
  simp only [iH,IJ,Option.map_eq_some_iff] at e ⊢
  obtain ⟨r,h1,h2⟩:=e
  exact ⟨r,zR hc h1,h2⟩
 | some ps =>
  simp only [iH] at e ⊢
  split at e
  ·rename_i h1
   rw [zR hc h1]; exact e
  ·cases e
theorem EO {f g:St→Option (Ex × St)} (h:∀ s r,f s = some r→g s = some r):∀ {n m:Nat} {s:St} {r:Ex × St},n ≤ m→BX f n s = some r→BX g m s = some r
 | 0,m,s,r,_,e=>by cases e
 | n + 1,0,s,r,hle,e=>by omega
 | n + 1,m + 1,s,r,hle,e=>by
  simp only [BX] at e ⊢
  cases hf:f s with
  | none=>rw [hf] at e; cases e
  | some q =>
   obtain ⟨ex,s'⟩:=q
   rw [hf] at e
   rw [h s _ hf]
   cases ex with
   | normal=>exact EO h (by omega) e
   | exit id=>exact e
   | ret=>exact e
theorem rX (hc:CLe C C') {n m:Nat} (hnm:n ≤ m):∀ (c:bB) (s:St) (r:Ex × St),eB C n c s = some r→eB C' m c s = some r:=by
 intro c
 induction c with
 | skip=>exact fun s r e=>e
 | region ops d =>
  intro s r e
  simp only [eB] at e ⊢
  split at e
  ·rename_i h1; rw [GN hc h1]; exact e
  ·cases e
 | seq a b iha ihb =>
  intro s r e
  simp only [eB] at e ⊢
  cases ha:eB C n a s with
  | none=>rw [ha] at e; cases e
  | some q =>
   obtain ⟨ex,s'⟩:=q
   rw [ha] at e
   rw [iha s _ ha]
   cases ex with
   | normal=>exact ihb _ _ e
   | exit id=>exact e
   | ret=>exact e
 | cond c a b iha ihb =>
  intro s r e
  simp only [eB] at e ⊢
  split at e
  ·exact iha _ _ e
  ·exact ihb _ _ e
  ·cases e
 | block id a iha =>
  intro s r e
  simp only [eB] at e ⊢
  cases ha:eB C n a s with
  | none=>rw [ha] at e; cases e
  | some q=>rw [ha] at e; rw [iha s _ ha]; exact e
 | loop a iha =>
  intro s r e
  simp only [eB] at e ⊢
  exact EO iha hnm e
 | exit id=>exact fun s r e=>e
 | ret=>exact fun s r e=>e
 | pre m' a iha=>exact fun s r e=>iha _ _ e
 | post a m' iha =>
  intro s r e
  simp only [eB] at e ⊢
  cases ha:eB C n a s with
  | none=>rw [ha] at e; cases e
  | some q=>rw [ha] at e; rw [iha s _ ha]; exact e
end
theorem N5 (T:FU):∀ (n f:Nat) (ds:List D) (x:D),nT T n f ds = some x→nT T (n + 1) f ds = some x
 | 0,f,ds,x,e=>by cases e
 | n + 1,f,ds,x,e=>by
  rw [nT] at e ⊢
  cases hT:T f with
  | none=>rw [hT] at e; cases e
  | some d =>
   rw [hT] at e
   cases d with
   | told o=>exact e
   | code sf =>
   simp only at e ⊢
   split at e
   ·rename_i hl
    rw [if_pos hl]
    cases he:eB (nT T n) n sf.body ⟨rN 0 ds,[]⟩ with
    | none=>rw [he] at e; cases e
    | some q =>
     rw [he] at e
     rw [rX (N5 T n) (Nat.le_succ n) _ _ _ he]
     exact e
   ·cases e
theorem oR (T:FU) {n m:Nat} (h:n ≤ m):CLe (nT T n) (nT T m):=by
 induction h with
 | refl=>exact fun _ _ _ e=>e
 | step _ ih=>exact fun f ds x e=>N5 T _ f ds x (ih f ds x e)
noncomputable def call (T:FU) (f:Nat) (ds:List D):Option D:=lim fun n=>nT T n f ds
noncomputable def ev (T:FU) (c:bB) (s:St):Option (Ex × St):=lim fun n=>eB (nT T n) n c s
theorem zZ {T:FU} {f:Nat} {ds:List D} {x:D}:call T f ds = some x ↔ ∃ n,nT T n f ds = some x:=RF fun _ _ _ h e=>oR T h _ _ _ e
theorem lZ {T:FU} {c:bB} {s:St} {r:Ex × St}:ev T c s = some r ↔ ∃ n,eB (nT T n) n c s = some r:=RF fun _ _ _ h e=>rX (oR T h) h _ _ _ e
theorem XK {P:Program} {T:FU} (hT:∀ f sf,T f = some (.code sf)→∃ fn,P.funcs[f]? = some fn ∧ eW P fn sf) (hO:∀ f o,T f = some (.told o)→∀ ds x,o ds = some x→rZ P f ds x) (hm:P.follows .mixedOrders = true) {f:Nat} {ds:List D} {x:D} (e:call T f ds = some x):rZ P f ds x:=by
 obtain ⟨n,hn⟩:=zZ.1 e
 exact aAa T hT hO hm n f ds x hn
section
variable {T:FU}
theorem aDg (n:Nat):CLe (nT T n) (call T):=fun f ds x e=>zZ.2 ⟨n,e⟩
theorem aGw {site:Nat} {evv:eM→V} {bl:Nat→Option aY} {so:nS} {r:V × List (Nat × Option aY)} (e:fP (call T) site evv bl so = some r):∃ n,fP (nT T n) site evv bl so = some r:=by
 cases so with
 | call f args =>
  simp only [fP] at e ⊢
  split at e
  ·cases e
  ·rename_i ds hds
   split at e
   ·cases e
   ·rename_i x hx
    obtain ⟨n,hn⟩:=zZ.1 hx
    exact ⟨n,by rw [hn]; exact e⟩
 | callv g args =>
  simp only [fP] at e ⊢
  split at e
  ·split at e
   ·cases e
   ·split at e
    ·cases e
    ·rename_i x hx
     obtain ⟨n,hn⟩:=zZ.1 hx
     exact ⟨n,by rw [hn]; exact e⟩
  ·cases e
 | _=>exact ⟨0,e⟩
theorem W7 {o:cG} {s:St} {r:St × Fp} (e:kJ (call T) o s = some r):∃ n,kJ (nT T n) o s = some r:=by
 unfold kJ at e ⊢
 split at e
 ·split at e
  ·rename_i v wr ha
   obtain ⟨n,hn⟩:=aGw ha
   exact ⟨n,by rw [hn]; exact e⟩
  ·cases e
 ·exact ⟨0,e⟩
 ·cases e
theorem GG:∀ {l:List cG} {s:St} {r:St × List Fp},jR (call T) l s = some r→∃ n,jR (nT T n) l s = some r
 | [],s,r,e=>⟨0,e⟩
 | o :: l,s,r,e=>by
  simp only [jR] at e ⊢
  split at e
  ·rename_i s' p h1
   split at e
   ·rename_i s'' ps h2
    obtain ⟨n1,g1⟩:=W7 h1
    obtain ⟨n2,g2⟩:=GG h2
    refine ⟨max n1 n2,?_⟩
    rw [L2 (oR T (Nat.le_max_left n1 n2)) g1]
    simp only [zR (oR T (Nat.le_max_right n1 n2)) g2]
    exact e
   ·cases e
  ·cases e
theorem IA {l:List cG} {d:Option (List (Nat × Nat))} {s s' : St}:iH (call T) l d s = some s' ↔ ∃ n,iH (nT T n) l d s = some s':=by
 constructor
 ·intro e
  cases d with
  | none =>
   simp only [iH,IJ,Option.map_eq_some_iff] at e ⊢
   obtain ⟨r,h1,h2⟩:=e
   obtain ⟨n,hn⟩:=GG h1
   exact ⟨n,r,hn,h2⟩
  | some ps =>
   simp only [iH] at e ⊢
   split at e
   ·rename_i h1
    obtain ⟨n,hn⟩:=GG h1
    exact ⟨n,by rw [hn]; exact e⟩
   ·cases e
 ·rintro ⟨n,hn⟩; exact GN (aDg n) hn
theorem aF9 (s:St):ev T .skip s = some (.normal,s):=lZ.2 ⟨0,rfl⟩
theorem aGm (id:Nat) (s:St):ev T (.exit id) s = some (.exit id,s):=lZ.2 ⟨0,rfl⟩
theorem aJm (s:St):ev T .ret s = some (.ret,s):=lZ.2 ⟨0,rfl⟩
theorem QK (l:List cG) (d:Option (List (Nat × Nat))) (s:St):ev T (.region l d) s = (iH (call T) l d s).map fun s'=>(.normal,s'):=by
 refine xK fun r=>?_
 rw [lZ,Option.map_eq_some_iff]
 constructor
 ·rintro ⟨n,hn⟩
  simp only [eB] at hn
  split at hn
  ·rename_i s' h1; cases hn; exact ⟨s',IA.2 ⟨n,h1⟩,rfl⟩
  ·cases hn
 ·rintro ⟨s',h1,rfl⟩
  obtain ⟨n,hn⟩:=IA.1 h1
  exact ⟨n,by simp only [eB,hn]⟩
theorem aKm (a b:bB) (s:St):ev T (.seq a b) s = (match ev T a s with | some (.normal,s')=>ev T b s' | r=>r):=by
 refine xK fun r=>?_
 rw [lZ]
 constructor
 ·rintro ⟨n,hn⟩
  simp only [eB] at hn
  cases ha:eB (nT T n) n a s with
  | none=>rw [ha] at hn; cases hn
  | some q =>
   obtain ⟨ex,s'⟩:=q
   rw [ha] at hn
   rw [lZ.2 ⟨n,ha⟩]
   cases ex with
   | normal=>exact lZ.2 ⟨n,hn⟩
   | exit id=>exact hn
   | ret=>exact hn
 ·intro e
  cases ha:ev T a s with
  | none=>rw [ha] at e; cases e
  | some q =>
   obtain ⟨ex,s'⟩:=q
   rw [ha] at e
   obtain ⟨n1,g1⟩:=lZ.1 ha
   cases ex with
   | normal =>
    obtain ⟨n2,g2⟩:=lZ.1 e
    refine ⟨max n1 n2,?_⟩
    simp only [eB,rX (oR T (Nat.le_max_left n1 n2)) (Nat.le_max_left n1 n2) _ _ _ g1]
    exact rX (oR T (Nat.le_max_right n1 n2)) (Nat.le_max_right n1 n2) _ _ _ g2
   | exit id=>exact ⟨n1,by simp only [eB,g1]; exact e⟩
   | ret=>exact ⟨n1,by simp only [eB,g1]; exact e⟩
theorem aGb (c:eM) (a b:bB) (s:St):ev T (.cond c a b) s = (match dL s.get c with | .d (.bool true)=>ev T a s | .d (.bool false)=>ev T b s | _=>none):=by
 refine xK fun r=>?_
 rw [lZ]
 simp only [eB]
 generalize dL s.get c = v
 cases v with
 | d x=>cases x with
  | bool b=>cases b <;> exact lZ.symm
  | _=>simp
 | _=>simp
theorem aEv (id:Nat) (a:bB) (s:St):ev T (.block id a) s = (match ev T a s with | some (.exit id',s')=>if id' = id then some (.normal,s') else some (.exit id',s') | r=>r):=by
 refine xK fun r=>?_
 rw [lZ]
 constructor
 ·rintro ⟨n,hn⟩
  simp only [eB] at hn
  cases ha:eB (nT T n) n a s with
  | none=>rw [ha] at hn; cases hn
  | some q=>rw [ha] at hn; rw [lZ.2 ⟨n,ha⟩]; exact hn
 ·intro e
  cases ha:ev T a s with
  | none=>rw [ha] at e; cases e
  | some q =>
   rw [ha] at e
   obtain ⟨n1,g1⟩:=lZ.1 ha
   exact ⟨n1,by simp only [eB,g1]; exact e⟩
theorem aFN (m:yK) (a:bB) (s:St):ev T (.post a m) s = (match ev T a s with | some (.normal,s')=>some (.normal,m.app s') | r=>r):=by
 refine xK fun r=>?_
 rw [lZ]
 constructor
 ·rintro ⟨n,hn⟩
  simp only [eB] at hn
  cases ha:eB (nT T n) n a s with
  | none=>rw [ha] at hn; cases hn
  | some q=>rw [ha] at hn; rw [lZ.2 ⟨n,ha⟩]; exact hn
 ·intro e
  cases ha:ev T a s with
  | none=>rw [ha] at e; cases e
  | some q =>
   rw [ha] at e
   obtain ⟨n1,g1⟩:=lZ.1 ha
   exact ⟨n1,by simp only [eB,g1]; exact e⟩
theorem aFP (a:bB) (s:St):ev T (.loop a) s = (match ev T a s with | some (.normal,s')=>ev T (.loop a) s' | r=>r):=by
 refine xK fun r=>?_
 rw [lZ]
 constructor
 ·rintro ⟨n,hn⟩
  simp only [eB] at hn
  cases n with
  | zero=>cases hn
  | succ n =>
   simp only [BX] at hn
   cases ha:eB (nT T (n + 1)) (n + 1) a s with
   | none=>rw [ha] at hn; cases hn
   | some q =>
    obtain ⟨ex,s'⟩:=q
    rw [ha] at hn
    rw [lZ.2 ⟨n + 1,ha⟩]
    cases ex with
    | normal=>exact lZ.2 ⟨n + 1,by simp only [eB]; exact EO (fun _ _ e=>e) (Nat.le_succ n) hn⟩
    | exit id=>exact hn
    | ret=>exact hn
 ·intro e
  cases ha:ev T a s with
  | none=>rw [ha] at e; cases e
  | some q =>
   obtain ⟨ex,s'⟩:=q
   rw [ha] at e
   obtain ⟨n1,g1⟩:=lZ.1 ha
   cases ex with
   | normal =>
    obtain ⟨n2,g2⟩:=lZ.1 e
    refine ⟨max n1 n2 + 1,?_⟩
    have h1:=rX (oR T (show n1 ≤ max n1 n2 + 1 by omega)) (show n1 ≤ max n1 n2 + 1 by omega) _ _ _ g1
    simp only [eB,BX,h1]
    simp only [eB] at g2
    exact EO (fun s r e=>rX (oR T (show n2 ≤ max n1 n2 + 1 by omega)) (show n2 ≤ max n1 n2 + 1 by omega) _ _ _ e) (show n2 ≤ max n1 n2 by omega) g2
   | exit id=>exact ⟨n1 + 1,by simp only [eB,BX,rX (oR T (Nat.le_succ n1)) (Nat.le_succ n1) _ _ _ g1]; exact e⟩
   | ret=>exact ⟨n1 + 1,by simp only [eB,BX,rX (oR T (Nat.le_succ n1)) (Nat.le_succ n1) _ _ _ g1]; exact e⟩
theorem G3 {f:Nat} {o:List D→Option D} (hf:T f = some (.told o)) (ds:List D):call T f ds = o ds:=by
 refine xK fun x=>?_
 rw [zZ]
 constructor
 ·rintro ⟨n,hn⟩
  cases n with
  | zero=>cases hn
  | succ n=>simpa only [nT,hf] using hn
 ·intro e
  exact ⟨1,by simpa only [nT,hf] using e⟩
theorem aFT {f:Nat} {sf:cQ} (hf:T f = some (.code sf)) (ds:List D) (hl:ds.length = sf.np):call T f ds = (match ev T sf.body ⟨rN 0 ds,[]⟩ with
  | some (.normal,s)=>GX sf s
  | some (.ret,s)=>GX sf s
  | _=>none):=by
 refine xK fun x=>?_
 rw [zZ]
 constructor
 ·rintro ⟨n,hn⟩
  cases n with
  | zero=>cases hn
  | succ n =>
   simp only [nT,hf,if_pos hl] at hn
   cases he:eB (nT T n) n sf.body ⟨rN 0 ds,[]⟩ with
   | none=>rw [he] at hn; cases hn
   | some q=>rw [he] at hn; rw [lZ.2 ⟨n,he⟩]; exact hn
 ·intro e
  cases he:ev T sf.body ⟨rN 0 ds,[]⟩ with
  | none=>rw [he] at e; cases e
  | some q =>
   rw [he] at e
   obtain ⟨n,hn⟩:=lZ.1 he
   exact ⟨n + 1,by simp only [nT,hf,if_pos hl,hn]; exact e⟩
end
def FM {S X:Type} (step:S→Option (S ⊕ X)):Nat→S→Option X
 | 0,_=>none
 | n + 1,s=>match step s with
  | none=>none
  | some (.inl s')=>FM step n s'
  | some (.inr x)=>some x
noncomputable def fA {S X:Type} (step:S→Option (S ⊕ X)) (s:S):Option X:=lim fun n=>FM step n s
section
variable {S X:Type} {step:S→Option (S ⊕ X)}
theorem OL:∀ (n m:Nat) (s:S) (x:X),n ≤ m→FM step n s = some x→FM step m s = some x
 | 0,m,s,x,_,e=>by cases e
 | n + 1,0,s,x,h,e=>by omega
 | n + 1,m + 1,s,x,h,e=>by
  simp only [FM] at e ⊢
  split at e
  ·cases e
  ·exact OL n m _ x (by omega) e
  ·exact e
theorem GB {s:S} {x:X}:fA step s = some x ↔ ∃ n,FM step n s = some x:=RF fun n m x h e=>OL n m _ x h e
theorem ZD (s:S):fA step s = (match step s with | none=>none | some (.inl s')=>fA step s' | some (.inr x)=>some x):=by
 refine xK fun x=>?_
 rw [GB]
 constructor
 ·rintro ⟨n,hn⟩
  cases n with
  | zero=>cases hn
  | succ n =>
   simp only [FM] at hn
   cases hs:step s with
   | none=>rw [hs] at hn; cases hn
   | some q =>
    rw [hs] at hn
    cases q with
    | inl s'=>exact GB.2 ⟨n,hn⟩
    | inr y=>exact hn
 ·intro e
  cases hs:step s with
  | none=>rw [hs] at e; cases e
  | some q =>
   rw [hs] at e
   cases q with
   | inl s'=>obtain ⟨n,hn⟩:=GB.1 e; exact ⟨n + 1,by simp only [FM,hs]; exact hn⟩
   | inr y=>exact ⟨1,by simp only [FM,hs]; exact e⟩
def cV (enc:S→St) (out:X→Ex × St):Option (S ⊕ X)→Option (Ex × St)
 | none=>none
 | some (.inl s')=>some (.normal,enc s')
 | some (.inr x)=>some (out x)
theorem aCE {T:FU} {c:bB} (enc:S→St) (out:X→Ex × St) (hout:∀ x s,out x ≠ (.normal,s)) (h:∀ s,ev T c (enc s) = cV enc out (step s)) (s:S) :
  ev T (.loop c) (enc s) = (fA step s).map out:=by
 refine xK fun r=>?_
 rw [Option.map_eq_some_iff]
 constructor
 ·intro e
  obtain ⟨n,hn⟩:=lZ.1 e
  simp only [eB] at hn
  generalize hk:(n:Nat) = k at hn
  have key:∀ (k:Nat) (s:S),BX (eB (nT T n) n c) k (enc s) = some r→∃ x,FM step k s = some x ∧ out x = r:=by
   intro k
   induction k with
   | zero=>intro s e; cases e
   | succ k ih =>
    intro s e
    simp only [BX] at e
    cases hc:eB (nT T n) n c (enc s) with
    | none=>rw [hc] at e; cases e
    | some q =>
     have h1:=lZ.2 ⟨n,hc⟩
     rw [h s] at h1
     rw [hc] at e
     simp only [FM]
     cases hs:step s with
     | none=>rw [hs] at h1; cases h1
     | some y =>
      rw [hs] at h1
      cases y with
      | inl s' =>
       obtain rfl:=Option.some.inj h1
       exact ih s' e
      | inr x =>
       simp only [cV,Option.some.injEq] at h1
       refine ⟨x,rfl,?_⟩
       obtain ⟨ex,s'⟩:=q
       cases ex with
       | normal=>exact absurd h1 (hout x s')
       | exit id=>rw [h1]; exact Option.some.inj e
       | ret=>rw [h1]; exact Option.some.inj e
  subst hk
  obtain ⟨x,g1,g2⟩:=key n s hn
  exact ⟨x,GB.2 ⟨n,g1⟩,g2⟩
 ·rintro ⟨x,h1,rfl⟩
  obtain ⟨n,hn⟩:=GB.1 h1
  clear h1
  induction n generalizing s with
  | zero=>cases hn
  | succ n ih =>
   simp only [FM] at hn
   rw [aFP,h s]
   cases hs:step s with
   | none=>rw [hs] at hn; cases hn
   | some q =>
    rw [hs] at hn
    cases q with
    | inl s'=>exact ih s' hn
    | inr y =>
     obtain rfl:=Option.some.inj hn
     simp only [cV]
     cases ho:out y with
     | mk ex s' =>
      cases ex with
      | normal=>exact absurd ho (hout y s')
      | exit id=>rfl
      | ret=>rfl
end
end Vm
end Go.Proofs.Ytfhebiceipgdmaa
