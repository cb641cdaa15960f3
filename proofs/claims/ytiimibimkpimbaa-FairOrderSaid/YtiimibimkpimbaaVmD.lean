/- Code is run; calls are run. Calls are run; what a call answers at last. A call that is run in its caller's place amid a region whose order is drawn: all else stands ahead of it or behind it. What code and calls answer at last; equations to reckon with. -/
import Derived.Test.YtiimibimkpimbaaVmC
set_option linter.unusedVariables false
set_option linter.unusedSimpArgs false
namespace Go.Proofs.Ytiimibimkpimbaa
namespace Vm
open Go.RowKit
def aIg (keep:List Nat) (bl:Nat→Option aK):V→Bool
 | .ptr id _=>match bl id with
  | some (.box _)=>keep.contains id
  | _=>false
 | _=>false
def s8 (keep:List Nat) (bl:Nat→Option aK):V→V
 | .ptr id off=>match bl id with
  | some (.box _)=>if keep.contains id then .ptr id off else .any
  | some (.fbox cs)=>.d (.ptr cs off)
  | _=>.any
 | .own id ver=>match bl id with
  | some (.rows v _ _ _)=>if keep.contains id && ver == v then .own id 0 else .any
  | some (.froz v rows)=>if ver = v then .d (.sl rows) else .any
  | _=>.any
 | .orow id ver i off=>match bl id with
  | some (.rows v _ _ _)=>if keep.contains id && ver == v then .orow id 0 i off else .any
  | _=>.any
 | .fn f caps=>if caps.all (aIg keep bl) = true then .fn f caps else .any
 | .mp id=>match bl id with
  | some (.mp _ _)=>if keep.contains id then .mp id else .any
  | some (.fmp ek m)=>.d (.mp ek m)
  | _=>.any
 | v=>v
def OJ (keep:List Nat) (bl:Nat→Option aK):V→V
 | .agg cs=>.agg (cs.map (s8 keep bl))
 | v=>s8 keep bl v
def EF (keep:List Nat) (bl:Nat→Option aK):V→V
 | .tup vs=>.tup (vs.map (OJ keep bl))
 | v=>OJ keep bl v
def xN (keep:List Nat) (bl:Nat→Option aK):aK→Option aK
 | .box cs=>some (.box (cs.map (s8 keep bl)))
 | .rows _ e s rows=>some (.rows 0 e s rows)
 | .froz _ _=>none
 | .fbox _=>none
 | .outer cs=>some (.outer (cs.map (EF keep bl)))
 | .mp ek m=>some (.mp ek m)
 | .fmp _ _=>none
def mkT (p:Nat × Nat × Nat × Nat) (s:St):St:=match s.get p.1,s.blk p.2.1 with
 | .nil,none=>if 0 < p.2.2.2 then ⟨(p.1,.own p.2.1 0) :: s.fr,(p.2.1,some (.rows 0 p.2.2.1 p.2.2.2 [])) :: s.bl⟩ else s
 | _,_=>s
def mkC (p:Nat × Nat × Nat × Nat × Nat) (s:St):St:=match s.blk p.1,s.blk p.2.2.1 with
 | some (.box cs),none=>match cs[p.2.1]? with
  | some .nil=>if 0 < p.2.2.2.2 then ⟨s.fr,(p.1,some (.box (cs.set p.2.1 (.own p.2.2.1 0)))) :: (p.2.2.1,some (.rows 0 p.2.2.2.1 p.2.2.2.2 [])) :: s.bl⟩ else s
  | _=>s
 | _,_=>s
def frT (t:Nat) (s:St):St:=match rZ s.blk (s.get t) with
 | some d=>⟨(t,.d d) :: s.fr,DM s.blk (s.get t) ++ s.bl⟩
 | none=>s
def frC (p:Nat × Nat) (s:St):St:=match s.blk p.1 with
 | some (.box cs)=>match cs[p.2]? with
  | some v=>match rZ s.blk v with
   | some d=>⟨s.fr,(p.1,some (.box (cs.set p.2 (.d d)))) :: (DM s.blk v ++ s.bl)⟩
   | none=>s
  | none=>s
 | _=>s
def OX (live keep:List Nat) (s:St):St:=⟨live.map fun t=>(t,EF keep s.blk (s.get t)),keep.map fun i=>(i,(s.blk i).bind (xN keep s.blk))⟩
def xS.app (m:xS) (s:St):St:=OX m.live m.keep (m.fzC.foldl (fun s p=>frC p s) (m.fzT.foldl (fun s t=>frT t s) (m.ownC.foldl (fun s p=>mkC p s) (m.ownT.foldl (fun s p=>mkT p s) s))))
section
variable {nt:Nat} {w0:fD} {w:World} {h0 h:Hp} {s:St} {a:Act} {hd:Nat→Value}
theorem V1 {α:Type} (f:Nat→α) (d:α) (t:Nat):∀ l:List Nat,lk (l.map fun i=>(i,f i)) d t = if t ∈ l then f t else d
 | []=>rfl
 | k :: l=>by
  simp only [List.map_cons,lk,V1 f d t l,List.mem_cons]
  by_cases e:t = k
  ·subst e; simp
  ·simp [e]
theorem rA {fr:Nat→V} {bl bl' : Nat→Option aK} {keep:List Nat} (r:Rl nt w0 h0 fr bl a w h hd) (hbl:∀ i,bl' i = if i ∈ keep then (bl i).bind (xN keep bl) else none) {v:Value} {x:V} (hx:R1 h hd bl v x):R1 h hd bl' v (s8 keep bl x):=by
 cases x with
 | ptr id off =>
  obtain ⟨⟨b,hb,hbx⟩,g,q1,q2⟩:=hx
  simp only [s8,hb]
  cases b with
  | box cs =>
   simp only
   split
   ·rename_i hk
    exact ⟨⟨_,by rw [hbl,if_pos (by simpa using hk),hb]; rfl,rfl⟩,g,q1,q2⟩
   ·trivial
  | fbox cs =>
   have:=r.blk id _ hb
   simp only [BR,q1] at this
   subst q2
   exact ⟨rfl,F3 this⟩
  | _=>trivial
 | own id ver =>
  obtain ⟨b,c,hb,hc,hle,h1,he⟩:=hx
  simp only [s8,hb]
  cases b with
  | box cs=>trivial
  | fbox cs=>trivial
  | outer cs=>trivial
  | mp ek m=>trivial
  | fmp ek m=>trivial
  | rows v' e s rows =>
   simp only [aK.ver?,Option.some.injEq] at hc
   simp only
   split
   ·rename_i hk
    simp only [Bool.and_eq_true,beq_iff_eq] at hk
    exact ⟨_,0,by rw [hbl,if_pos (by simpa using hk.1),hb]; rfl,rfl,Nat.le_refl _,h1,fun _=>he (by omega)⟩
   ·trivial
  | froz v' rows =>
   simp only [aK.ver?,Option.some.injEq] at hc
   simp only
   split
   ·rename_i hv
    refine ⟨rfl,?_⟩
    rw [he (by omega)]
    exact r.blk id _ hb
   ·trivial
 | orow id ver i off =>
  obtain ⟨b,c,hb,hc,hle,h1,he⟩:=hx
  simp only [s8,hb]
  cases b with
  | rows v' e s rows =>
   simp only [aK.ver?,Option.some.injEq] at hc
   simp only
   split
   ·rename_i hk
    simp only [Bool.and_eq_true,beq_iff_eq] at hk
    obtain ⟨hk,rfl⟩:=hk
    refine ⟨_,0,by rw [hbl,if_pos (by simpa using hk),hb]; rfl,rfl,Nat.le_refl _,h1,fun e' s' rows' eq=>?_⟩
    cases eq
    exact he e s rows rfl
   ·trivial
  | _=>trivial
 | mp id =>
  obtain ⟨⟨b,hb,hbx⟩,q1,g,q2⟩:=hx
  simp only [s8,hb]
  cases b with
  | mp ek m =>
   simp only
   split
   ·rename_i hk
    exact ⟨⟨_,by rw [hbl,if_pos (by simpa using hk),hb]; rfl,rfl⟩,q1,g,q2⟩
   ·trivial
  | fmp ek m =>
   have:=r.blk id _ hb
   subst q1
   exact ⟨rfl,this⟩
  | _=>trivial
 | any=>trivial
 | d x=>exact hx
 | nil=>exact hx
 | agg cs=>exact hx
 | tup cs=>exact hx
 | fn f caps =>
  simp only [s8]
  split
  ·rename_i hall
   obtain ⟨arr,e,hs,hr⟩:=hx
   refine ⟨arr,e,hs,fun j x hj=>?_⟩
   have hc:=List.all_eq_true.1 hall x (List.mem_of_getElem? hj)
   have hxr:=hr j x hj
   cases x with
   | ptr id off =>
    obtain ⟨⟨b,hb,hx⟩,q⟩:=hxr
    simp only [aIg,hb] at hc
    cases b with
    | box cs =>
     simp only at hc
     exact ⟨⟨_,by rw [hbl,if_pos (by simpa using hc),hb]; rfl,rfl⟩,q⟩
    | _=>cases hc
   | _=>exact hxr.elim
  ·trivial
theorem rB {fr:Nat→V} {bl bl' : Nat→Option aK} {keep:List Nat} (r:Rl nt w0 h0 fr bl a w h hd) (hbl:∀ i,bl' i = if i ∈ keep then (bl i).bind (xN keep bl) else none) {v:Value} {x:V} (hx:R2 h hd bl v x):R2 h hd bl' v (OJ keep bl x):=by
 cases x with
 | agg cs =>
  obtain ⟨arr,rfl,h1,h2⟩:=hx
  refine ⟨arr,rfl,by simpa using h1,fun j x hx=>?_⟩
  rw [List.getElem?_map,Option.map_eq_some_iff] at hx
  obtain ⟨y,hy,rfl⟩:=hx
  exact ⟨rA r hbl (h2 j y hy).1,(h2 j y hy).2⟩
 | tup vs=>exact (show False from hx).elim
 | any=>exact R2.of1 (rA r hbl (x:=.any) hx)
 | d x=>exact R2.of1 (rA r hbl (x:=.d x) hx)
 | nil=>exact R2.of1 (rA r hbl (x:=.nil) hx)
 | ptr i o=>exact R2.of1 (rA r hbl (x:=.ptr i o) hx)
 | own i n=>exact R2.of1 (rA r hbl (x:=.own i n) hx)
 | orow i n j o=>exact R2.of1 (rA r hbl (x:=.orow i n j o) hx)
 | fn f c=>exact R2.of1 (rA r hbl (x:=.fn f c) hx)
 | mp i=>exact R2.of1 (rA r hbl (x:=.mp i) hx)
theorem SX {fr:Nat→V} {bl bl' : Nat→Option aK} {keep:List Nat} (r:Rl nt w0 h0 fr bl a w h hd) (hbl:∀ i,bl' i = if i ∈ keep then (bl i).bind (xN keep bl) else none) {v:Value} {x:V} (hx:R3 h hd bl v x):R3 h hd bl' v (EF keep bl x):=by
 cases x with
 | tup vs =>
  obtain ⟨arr,rfl,h1,h2⟩:=hx
  refine ⟨arr,rfl,by simpa using h1,fun j x hx=>?_⟩
  rw [List.getElem?_map,Option.map_eq_some_iff] at hx
  obtain ⟨y,hy,rfl⟩:=hx
  exact rB r hbl (h2 j y hy)
 | agg cs=>exact R3.of2 (rB r hbl (x:=.agg cs) hx)
 | any=>exact R3.of2 (rB r hbl (x:=.any) hx)
 | d x=>exact R3.of2 (rB r hbl (x:=.d x) hx)
 | nil=>exact R3.of2 (rB r hbl (x:=.nil) hx)
 | ptr i o=>exact R3.of2 (rB r hbl (x:=.ptr i o) hx)
 | own i n=>exact R3.of2 (rB r hbl (x:=.own i n) hx)
 | orow i n j o=>exact R3.of2 (rB r hbl (x:=.orow i n j o) hx)
 | fn f c=>exact R3.of2 (rB r hbl (x:=.fn f c) hx)
 | mp i=>exact R3.of2 (rB r hbl (x:=.mp i) hx)
theorem aD1 (r:Rl nt w0 h0 s.get s.blk a w h hd) (live keep:List Nat):Rl nt w0 h0 (OX live keep s).get (OX live keep s).blk a w h hd:=by
 have hg:∀ t,(OX live keep s).get t = if t ∈ live then EF keep s.blk (s.get t) else .any:=fun t=>V1 _ _ _ _
 have hb:∀ i,(OX live keep s).blk i = if i ∈ keep then (s.blk i).bind (xN keep s.blk) else none:=fun i=>V1 _ _ _ _
 have hcase:∀ id b,(OX live keep s).blk id = some b→∃ b0,s.blk id = some b0 ∧ xN keep s.blk b0 = some b:=by
  intro id b e
  rw [hb] at e
  split at e
  ·rw [Option.bind_eq_some_iff] at e; exact e
  ·cases e
 refine { tmps:=r.tmps,defers:=r.defers,fixed:=r.fixed,below:=r.below,hle:=r.hle,h0le:=r.h0le,hbase:=r.hbase,frame:=fun t=>?_,blk:=fun id b e=>?_,sep:=?_ }
 ·rw [hg]
  split
  ·exact SX r hb (r.frame t)
  ·trivial
 ·obtain ⟨b0,e1,e2⟩:=hcase id b e
  have hB:=r.blk id b0 e1
  cases b0 with
  | box cs =>
   simp only [xN,Option.some.injEq] at e2
   subst e2
   obtain ⟨g,arr,ee,q1,q2,q3,q4,q5,q6⟩:=hB
   refine ⟨g,arr,ee,q1,q2,q3,by simpa using q4,fun j x hx=>?_,q6⟩
   rw [List.getElem?_map,Option.map_eq_some_iff] at hx
   obtain ⟨y,hy,rfl⟩:=hx
   exact ⟨rA r hb (q5 j y hy).1,(q5 j y hy).2⟩
  | rows v' ee ss rows=>simp only [xN,Option.some.injEq] at e2; subst e2; exact hB
  | froz v' rows=>cases e2
  | fbox cs=>cases e2
  | mp ek m=>simp only [xN,Option.some.injEq] at e2; subst e2; exact hB
  | fmp ek m=>cases e2
  | outer cs =>
   simp only [xN,Option.some.injEq] at e2
   subst e2
   intro j x hx
   rw [List.getElem?_map,Option.map_eq_some_iff] at hx
   obtain ⟨y,hy,rfl⟩:=hx
   exact SX r hb (hB j y hy)
 ·intro i j bi bj g hi hj li lj gi gj
  obtain ⟨b0,e1,e2⟩:=hcase i bi hi
  obtain ⟨b1,e3,e4⟩:=hcase j bj hj
  have l0:b0.live = true:=by cases b0 <;> first | rfl | (cases e2; done) | (simp only [xN,Option.some.injEq] at e2; subst e2; simp [aK.live] at li)
  have l1:b1.live = true:=by cases b1 <;> first | rfl | (cases e4; done) | (simp only [xN,Option.some.injEq] at e4; subst e4; simp [aK.live] at lj)
  exact r.sep i j b0 b1 g e1 e3 l0 l1 gi gj
theorem X2 (r:Rl nt w0 h0 s.get s.blk a w h hd) {id e size:Nat} (hs:s.blk id = none) (hz:0 < size):∃ hd',Rl nt w0 h0 s.get (cP s.blk [(id,some (.rows 0 e size []))]) a w h hd' ∧ hd' id = .slice none 0 0 ∧ R1 h hd' (cP s.blk [(id,some (.rows 0 e size []))]) (.slice none 0 0) (.own id 0):=by
 obtain ⟨hd',hh,hr⟩:=r.newRows' (w':=w) none (fun d e=>by cases e) id hs e size [] (.slice none 0 0) [] hz (by simp [maxLen]) ⟨rfl,rfl,rfl,Nat.le_refl _,fun _ _ _=>rfl⟩ (World.ownsRow_nil w _ e size) (fun i row hi=>by simp at hi)
 exact ⟨hd',hr,hh,⟨_,0,mT _ _ _,rfl,Nat.le_refl _,rfl,fun _=>hh.symm⟩⟩
theorem aIZ (r:Rl nt w0 h0 s.get s.blk a w h hd) (p:Nat × Nat × Nat × Nat):∃ hd',Rl nt w0 h0 (mkT p s).get (mkT p s).blk a w h hd':=by
 obtain ⟨t,id,e,size⟩:=p
 unfold mkT
 split
 ·rename_i h1 h2
  split
  ·rename_i hz
   simp only at h1 h2 hz
   obtain ⟨hd',hr,hh,hv⟩:=X2 r h2 hz (e:=e)
   refine ⟨hd',?_⟩
   have e1:(⟨(t,.own id 0) :: s.fr,(id,some (.rows 0 e size [])) :: s.bl⟩ : St).get = gA s.get (some t) (.own id 0):=by
    funext t'
    simp only [St.get,lk,gA,Option.some.injEq]
    by_cases q:t' = t
    ·rw [if_pos q,if_pos q.symm]
    ·rw [if_neg q,if_neg fun x=>q x.symm]
   have e2:(⟨(t,.own id 0) :: s.fr,(id,some (.rows 0 e size [])) :: s.bl⟩ : St).blk = cP s.blk [(id,some (.rows 0 e size []))]:=by
    funext i
    simp only [St.blk,lk,cP]
   simp only at e1 e2 ⊢
   rw [e1,e2]
   refine { hr with frame:=fun t'=>?_ }
   simp only [gA,Option.some.injEq]
   by_cases q:t = t'
   ·rw [if_pos q]
    have:=r.frame t
    rw [h1] at this
    subst q
    rw [show a.tmps.getD t undef = _ from this]
    exact hv
   ·rw [if_neg q]; exact hr.frame t'
  ·exact ⟨hd,r⟩
 ·exact ⟨hd,r⟩
theorem aIp (r:Rl nt w0 h0 s.get s.blk a w h hd) (p:Nat × Nat × Nat × Nat × Nat):∃ hd',Rl nt w0 h0 (mkC p s).get (mkC p s).blk a w h hd':=by
 obtain ⟨b,c,id,e,size⟩:=p
 unfold mkC
 split
 ·rename_i cs h1 h2
  split
  ·rename_i h3
   split
   ·rename_i hz
    simp only at h1 h2 h3 hz
    obtain ⟨hd',hr,hh,hv⟩:=X2 r h2 hz (e:=e)
    have hne:b ≠ id:=fun q=>by rw [q,h2] at h1; cases h1
    have hb' : cP s.blk [(id,some (.rows 0 e size []))] b = some (.box cs):=by rw [tG _ _ hne]; exact h1
    obtain ⟨g,arr,ee,q1,q2,q3,q4,q5,q6⟩:=hr.blk b _ hb'
    have hself:arr.getD c undef = .slice none 0 0:=(q5 c _ h3).1
    obtain ⟨hd'',hr''⟩:=hr.setBox (w':=w) none (fun d e=>by cases e) undef b cs (cs.set c (.own id 0)) hb' g arr arr ee q1 (by simpa using q4) (by
     intro j x hx
     rw [List.getElem?_set] at hx
     split at hx
     ·rename_i hj
      subst hj
      split at hx
      ·cases hx
       rw [hself]
       exact ⟨hv,rfl⟩
      ·cases hx
     ·exact q5 j x hx) q3 ⟨rfl,rfl,rfl,Nat.le_refl _,fun _ _ _=>rfl⟩
    refine ⟨hd'',?_⟩
    have e2:(⟨s.fr,(b,some (.box (cs.set c (.own id 0)))) :: (id,some (.rows 0 e size [])) :: s.bl⟩ : St).blk = cP (cP s.blk [(id,some (.rows 0 e size []))]) [(b,some (.box (cs.set c (.own id 0))))]:=by
     funext i
     simp only [St.blk,lk,cP]
    simp only at e2 ⊢
    rw [e2]
    exact hr''
   ·exact ⟨hd,r⟩
  ·exact ⟨hd,r⟩
 ·exact ⟨hd,r⟩
theorem UX {α:Type}:∀ (l m:List (Nat × α)) (d:α) (t:Nat),lk (l ++ m) d t = lk l (lk m d t) t
 | [],m,d,t=>rfl
 | (k,v) :: l,m,d,t=>by simp only [List.cons_append,lk]; rw [UX l m d t]
theorem aJA (r:Rl nt w0 h0 s.get s.blk a w h hd) (t:Nat):∃ h',Rl nt w0 h0 (frT t s).get (frT t s).blk a w h' hd:=by
 unfold frT
 split
 ·rename_i d hd0
  refine ⟨BT w h hd (DM s.blk (s.get t)),?_⟩
  have r':=r.freeze _ (LF (bl:=s.blk) (s.get t))
  have e1:(⟨(t,.d d) :: s.fr,DM s.blk (s.get t) ++ s.bl⟩ : St).get = gA s.get (some t) (.d d):=by
   funext t'
   simp only [St.get,lk,gA,Option.some.injEq]
   by_cases q:t' = t
   ·rw [if_pos q,if_pos q.symm]
   ·rw [if_neg q,if_neg fun x=>q x.symm]
  have e2:(⟨(t,.d d) :: s.fr,DM s.blk (s.get t) ++ s.bl⟩ : St).blk = cP s.blk (DM s.blk (s.get t)):=by
   funext i
   simp only [St.blk,cP,UX]
  rw [e1,e2]
  refine { r' with frame:=fun t'=>?_ }
  simp only [gA,Option.some.injEq]
  by_cases q:t = t'
  ·rw [if_pos q]
   subst q
   have hx:R1 h hd s.blk (a.tmps.getD t undef) (s.get t):=by
    have:=r.frame t
    cases hg:s.get t <;> rw [hg] at this hd0 <;> first | exact this | cases hd0
   have:=xO r (DM s.blk (s.get t)) hx hd0 fun p hp=>hp
   exact ⟨this.2,this.1⟩
  ·rw [if_neg q]; exact r'.frame t'
 ·exact ⟨h,r⟩
theorem aJO (r:Rl nt w0 h0 s.get s.blk a w h hd) (p:Nat × Nat):∃ h' hd',Rl nt w0 h0 (frC p s).get (frC p s).blk a w h' hd':=by
 obtain ⟨b,c⟩:=p
 unfold frC
 split
 ·rename_i cs h1
  split
  ·rename_i v h3
   split
   ·rename_i d hd0
    simp only at h1 h3
    have r':=r.freeze _ (LF (bl:=s.blk) v)
    have hb' : cP s.blk (DM s.blk v) b = some (.box cs):=by
     refine (qX ?_).trans h1
     intro hm
     obtain ⟨q,hq,rfl⟩:=List.mem_map.1 hm
     rcases LF (bl:=s.blk) v q hq with ⟨v',e',s',rows,g1,_⟩ | ⟨cs',ds,g1,g2,_⟩ | ⟨ek,m,g1,_⟩
     ·rw [h1] at g1; cases g1
     ·have:q ∈ DM s.blk v:=hq
      unfold DM at this
      split at this
      ·split at this
       ·simp only [List.mem_singleton] at this; rw [this] at g2; cases g2
       ·cases this
      ·split at this
       ·simp only [List.mem_singleton] at this; rw [this] at g2; cases g2
       ·cases this
      ·cases this
     ·rw [h1] at g1; cases g1
    obtain ⟨g,arr,ee,q1,q2,q3,q4,q5,q6⟩:=r'.blk b _ hb'
    obtain ⟨_,arr0,ee0,z1,z2,z3,z4,z5,z6⟩:=r.blk b _ h1
    rw [q1] at z1; cases z1
    rw [q3] at z3; cases z3
    have hval:=xO r (DM s.blk v) (z5 c v h3).1 hd0 fun p hp=>hp
    obtain ⟨hd'',hr''⟩:=r'.setBox (w':=w) none (fun d e=>by cases e) undef b cs (cs.set c (.d d)) hb' g arr arr ee q1 (by simpa using q4) (by
     intro j x hx
     rw [List.getElem?_set] at hx
     split at hx
     ·rename_i hj
      subst hj
      split at hx
      ·cases hx
       exact ⟨⟨hval.2,hval.1⟩,(z5 c v h3).2⟩
      ·cases hx
     ·exact q5 j x hx) q3 ⟨rfl,rfl,rfl,Nat.le_refl _,fun _ _ _=>rfl⟩
    refine ⟨BT w h hd (DM s.blk v),hd'',?_⟩
    have e2:(⟨s.fr,(b,some (.box (cs.set c (.d d)))) :: (DM s.blk v ++ s.bl)⟩ : St).blk = cP (cP s.blk (DM s.blk v)) [(b,some (.box (cs.set c (.d d))))]:=by
     funext i
     simp only [St.blk,lk,cP,UX]
    simp only at e2 ⊢
    rw [e2]
    exact hr''
   ·exact ⟨h,hd,r⟩
  ·exact ⟨h,hd,r⟩
 ·exact ⟨h,hd,r⟩
theorem CE {α:Type} (f:α→St→St) (hf:∀ (x:α) (s:St) (h:Hp) (hd:Nat→Value),Rl nt w0 h0 s.get s.blk a w h hd→∃ h' hd',Rl nt w0 h0 (f x s).get (f x s).blk a w h' hd'):∀ (l:List α) (s:St) (h:Hp) (hd:Nat→Value),Rl nt w0 h0 s.get s.blk a w h hd→∃ h' hd',Rl nt w0 h0 (l.foldl (fun s x=>f x s) s).get (l.foldl (fun s x=>f x s) s).blk a w h' hd'
 | [],s,h,hd,r=>⟨h,hd,r⟩
 | x :: l,s,h,hd,r=>by
  obtain ⟨h',hd',r'⟩:=hf x s h hd r
  exact CE f hf l (f x s) h' hd' r'
theorem JG (r:Rl nt w0 h0 s.get s.blk a w h hd) (m:xS):∃ h' hd',Rl nt w0 h0 (m.app s).get (m.app s).blk a w h' hd':=by
 obtain ⟨h1,hd1,r1⟩:=CE mkT (fun x s h hd r=>⟨h,aIZ r x⟩) m.ownT s h hd r
 obtain ⟨h2,hd2,r2⟩:=CE mkC (fun x s h hd r=>⟨h,aIp r x⟩) m.ownC _ h1 hd1 r1
 obtain ⟨h3,hd3,r3⟩:=CE frT (fun x s h hd r=>let ⟨h',q⟩:=aJA r x; ⟨h',hd,q⟩) m.fzT _ h2 hd2 r2
 obtain ⟨h4,hd4,r4⟩:=CE frC (fun x s h hd r=>aJO r x) m.fzC _ h3 hd3 r3
 exact ⟨h4,hd4,aD1 r4 m.live m.keep⟩
end
inductive Ex where
 | normal | exit (id:Nat) | ret
def Ex.go:Ex→Exit
 | .normal=>.normal
 | .exit id=>.exit id
 | .ret=>.ret
def qW (f:St→Option (Ex × St)):Nat→St→Option (Ex × St)
 | 0,_=>none
 | n + 1,s=>match f s with
  | some (.normal,s')=>qW f n s'
  | r=>r
def qT (s:St):mS→Option V
 | .tmp t=>some (s.get t)
 | .cell t size isAgg=>match eC (fun _ _=>none) 0 (fun _=>s.get t) s.blk (.load size isAgg (.t t)) with
  | some (v,_)=>some v
  | none=>none
def uJ:Nat→List V→List (Nat × V)
 | _,[]=>[]
 | i,v :: vs=>(i,v) :: uJ (i + 1) vs
def V.noTup:V→Bool
 | .tup _=>false
 | _=>true
def NM (args:List dH) (id:Nat) (slots:List Nat) (s:St):Option St :=
 if (s.blk id).isNone = true then some ⟨uJ 0 (args.map (cX s.get)),(id,some (.outer (slots.map s.get))) :: s.bl⟩ else none
def HD (ws:List V) (id:Nat) (slots:List Nat) (s:St):Option St :=
 if (s.blk id).isNone = true then some ⟨uJ 0 ws,(id,some (.outer (slots.map s.get))) :: s.bl⟩ else none
def aIX (f nc:Nat):V→Option (List V)
 | .fn g caps=>if g = f ∧ caps.length = nc then some caps else none
 | _=>none
def I4 (dst:Option Nat) (v:V):List (Nat × V):=match dst with
 | some d=>[(d,v)]
 | none=>[]
def pE (dst:Option Nat) (res:List mS) (id:Nat) (slots:List Nat) (s:St):Option St:=match s.blk id,bB (qT s) res with
 | some (.outer cs),some [v]=>some ⟨I4 dst v ++ slots.zip cs,(id,none) :: s.bl⟩
 | some (.outer cs),some vs=>if vs.all V.noTup = true then some ⟨I4 dst (.tup vs) ++ slots.zip cs,(id,none) :: s.bl⟩ else none
 | _,_=>none
def bZ (C:Nat→List D→Option D) (n:Nat):aT→St→Option (Ex × St)
 | .skip,s=>some (.normal,s)
 | .region ops draw,s=>match fZ C ops draw s with
  | some s'=>some (.normal,s')
  | none=>none
 | .seq a b,s=>match bZ C n a s with
  | some (.normal,s')=>bZ C n b s'
  | r=>r
 | .cond c a b,s=>match cX s.get c with
  | .d (.bool true)=>bZ C n a s
  | .d (.bool false)=>bZ C n b s
  | _=>none
 | .block id a,s=>match bZ C n a s with
  | some (.exit id',s')=>if id' = id then some (.normal,s') else some (.exit id',s')
  | r=>r
 | .loop a,s=>qW (bZ C n a) n s
 | .exit id,s=>some (.exit id,s)
 | .ret,s=>some (.ret,s)
 | .inlv ops x nc args dst f body res id slots,s=>match kS C ops s with
  | none=>none
  | some s1=>match aIX f nc (cX s1.get x) with
   | none=>none
   | some caps=>match HD (args.map (cX s1.get) ++ caps) id slots s1 with
    | none=>none
    | some s2=>match bZ C n body s2 with
     | some (.normal,s3)=>(pE dst res id slots s3).map fun s4=>(.normal,s4)
     | some (.ret,s3)=>(pE dst res id slots s3).map fun s4=>(.normal,s4)
     | _=>none
 | .pre m a,s=>bZ C n a (m.app s)
 | .post a m,s=>match bZ C n a s with
  | some (.normal,s')=>some (.normal,m.app s')
  | r=>r
 | .hand g,s=>match g s with
  | some s'=>some (.normal,s')
  | none=>none
 | .inl ops args dst f body res id slots,s=>match kS C ops s with
  | none=>none
  | some s1=>match NM args id slots s1 with
   | none=>none
   | some s2=>match bZ C n body s2 with
    | some (.normal,s3)=>(pE dst res id slots s3).map fun s4=>(.normal,s4)
    | some (.ret,s3)=>(pE dst res id slots s3).map fun s4=>(.normal,s4)
    | _=>none
theorem RT {P:Program} {c:Code} {Q:Exit→Act→World→Prop} (G:Nat→Act→World→Prop) (zero:∀ a w,¬ G 0 a w) (round:∀ k a w,G (k + 1) a w→c.wp P (Exit.then (fun a' w'=>G k a' w') Q) a w) :
  ∀ k a w,G k a w→(Code.loop c).wp P Q a w:=by
 intro k a w hG
 have least:∀ a w,(∃ k,G k a w)→∃ k,G k a w ∧ ∀ j,G j a w→k ≤ j:=by
  intro a w ⟨k,hk⟩
  induction k using Nat.strongRecOn with
  | _ k ih =>
   by_cases h:∃ j,j < k ∧ G j a w
   ·obtain ⟨j,hj,hg⟩:=h; exact ih j hj hg
   ·exact ⟨k,hk,fun j hj=>Nat.le_of_not_lt fun hlt=>h ⟨j,hlt,hj⟩⟩
 refine wp_loop (fun a w=>∃ k,G k a w) (fun a w=>@dite _ (∃ k,G k a w) (Classical.propDecidable _) (fun h=>(least a w h).choose) (fun _=>0)) ⟨k,hG⟩ ?_
 intro a w hI
 have hsp:=(least a w hI).choose_spec
 generalize hk0:(least a w hI).choose = k0 at hsp
 obtain ⟨g1,g2⟩:=hsp
 cases k0 with
 | zero=>exact absurd g1 (zero a w)
 | succ k1 =>
  refine wp_mono (round k1 a w g1) fun e a' w' hq=>?_
  cases e with
  | normal =>
   refine ⟨⟨k1,hq⟩,?_⟩
   have hI' : ∃ k,G k a' w':=⟨k1,hq⟩
   have h2:=(least a' w' hI').choose_spec.2 k1 hq
   simp only [dif_pos hI',dif_pos hI,hk0]
   omega
  | _=>exact hq
section
variable {P:Program} {nt:Nat} {w0:fD} {h0:Hp} {C:Nat→List D→Option D}
def uU (w0:fD):Code→Prop
 | .region _ ops _=>JZ w0 ops
 | .seq a b=>uU w0 a ∧ uU w0 b
 | .cond _ a b=>uU w0 a ∧ uU w0 b
 | .block _ a=>uU w0 a
 | .loop a=>uU w0 a
 | _=>True
theorem uU.none (h:∀ t,w0.F t = none):∀ c,uU w0 c
 | .region _ ops _=>fun _ _ d _=>h d
 | .seq a b=>⟨uU.none h a,uU.none h b⟩
 | .cond _ a b=>⟨uU.none h a,uU.none h b⟩
 | .block _ a=>uU.none h a
 | .loop a=>uU.none h a
 | .skip=>trivial
 | .exit _=>trivial
 | .ret=>trivial
 | .goto _=>trivial
 | .label _=>trivial
 | .scope _=>trivial
 | .refuse _=>trivial
 | .rangeFunc _ _ _ _=>trivial
theorem XR (hC:qN P C) (hm:P.follows .mixedOrders = true) (n:Nat):∀ (sc:aT) (c:Code) (s s' : St) (ex:Ex) (a:Act) (w:World) (h:Hp) (hd:Nat→Value) (Q:Exit→Act→World→Prop),
  uU w0 c→s7 P nt c = some sc.bare→bZ C n sc s = some (ex,s')→Rl nt w0 h0 s.get s.blk a w h hd→(∀ a' w' h' hd',Rl nt w0 h0 s'.get s'.blk a' w' h' hd'→Q ex.go a' w')→c.wp P Q a w:=by
 intro sc
 induction sc with
 | skip =>
  intro c s s' ex a w h hd Q hF hl he r hQ
  cases c <;> simp only [s7,aT.bare] at hl
  case skip=>simp only [bZ,Option.some.injEq,Prod.mk.injEq] at he; obtain ⟨rfl,rfl⟩:=he; exact wp_skip (hQ _ _ _ _ r)
  case region=>split at hl <;> first | (cases hl; done) | skip; split at hl <;> first | (cases hl; done) | skip; split at hl <;> cases hl
  case seq=>split at hl <;> cases hl
  case cond=>split at hl <;> cases hl
  case block=>rw [Option.map_eq_some_iff] at hl; obtain ⟨_,_,e⟩:=hl; cases e
  case loop=>rw [Option.map_eq_some_iff] at hl; obtain ⟨_,_,e⟩:=hl; cases e
  all_goals cases hl
 | region ops draw =>
  intro c s s' ex a w h hd Q hF hl he r hQ
  cases c <;> simp only [s7,aT.bare] at hl
  case region id rops dr =>
   split at hl
   ·cases hl
   ·rename_i l hlow
    simp only [bZ] at he
    split at he
    ·rename_i s1 h1
     cases he
     split at hl
     ·rename_i hdr
      split at hl
      ·rename_i hok
       cases hl
       subst hdr
       exact OY hC hm hF hlow (draw:=true) (by simp [hok]) h1 r hQ
      ·cases hl
     ·rename_i hdr
      cases hl
      have:dr = false:=by simpa using hdr
      subst this
      exact OY hC hm hF hlow (draw:=false) (by simp) h1 r hQ
    ·cases he
  case seq=>split at hl <;> cases hl
  case cond=>split at hl <;> cases hl
  case block=>rw [Option.map_eq_some_iff] at hl; obtain ⟨_,_,e⟩:=hl; cases e
  case loop=>rw [Option.map_eq_some_iff] at hl; obtain ⟨_,_,e⟩:=hl; cases e
  all_goals cases hl
 | seq x y ihx ihy =>
  intro c s s' ex a w h hd Q hF hl he r hQ
  cases c <;> simp only [s7,aT.bare] at hl
  case region=>split at hl <;> first | (cases hl; done) | skip; split at hl <;> first | (cases hl; done) | skip; split at hl <;> cases hl
  case seq ca cb =>
   split at hl
   ·rename_i l1 l2 h1 h2
    cases hl
    refine wp_seq ?_
    simp only [bZ] at he
    split at he
    ·rename_i s1 he1
     exact ihx ca s s1 .normal a w h hd _ hF.1 h1 he1 r fun a' w' h' hd' r'=>ihy cb s1 s' ex a' w' h' hd' Q hF.2 h2 he r' hQ
    ·rename_i hne
     refine ihx ca s s' ex a w h hd _ hF.1 h1 he r fun a' w' h' hd' r'=>?_
     cases ex with
     | normal=>exact absurd he (hne _)
     | exit id=>exact hQ _ _ _ _ r'
     | ret=>exact hQ _ _ _ _ r'
   ·cases hl
  case cond=>split at hl <;> cases hl
  case block=>rw [Option.map_eq_some_iff] at hl; obtain ⟨_,_,e⟩:=hl; cases e
  case loop=>rw [Option.map_eq_some_iff] at hl; obtain ⟨_,_,e⟩:=hl; cases e
  all_goals cases hl
 | cond c x y ihx ihy =>
  intro cc s s' ex a w h hd Q hF hl he r hQ
  cases cc <;> simp only [s7,aT.bare] at hl
  case region=>split at hl <;> first | (cases hl; done) | skip; split at hl <;> first | (cases hl; done) | skip; split at hl <;> cases hl
  case seq=>split at hl <;> cases hl
  case cond co ca cb =>
   split at hl
   ·rename_i l0 l1 l2 h1 h2 h3
    cases hl
    have hc:=bW r.frame h1
    simp only [bZ] at he
    split at he
    ·rename_i hb
     rw [hb] at hc
     exact wp_cond_true (o9 hc) (ihx ca s s' ex a w h hd Q hF.1 h2 he r hQ)
    ·rename_i hb
     rw [hb] at hc
     exact wp_cond_false (o9 hc) (ihy cb s s' ex a w h hd Q hF.2 h3 he r hQ)
    ·cases he
   ·cases hl
  case block=>rw [Option.map_eq_some_iff] at hl; obtain ⟨_,_,e⟩:=hl; cases e
  case loop=>rw [Option.map_eq_some_iff] at hl; obtain ⟨_,_,e⟩:=hl; cases e
  all_goals cases hl
 | block id x ih =>
  intro c s s' ex a w h hd Q hF hl he r hQ
  cases c <;> simp only [s7,aT.bare] at hl
  case region=>split at hl <;> first | (cases hl; done) | skip; split at hl <;> first | (cases hl; done) | skip; split at hl <;> cases hl
  case seq=>split at hl <;> cases hl
  case cond=>split at hl <;> cases hl
  case block id' ca =>
   rw [Option.map_eq_some_iff] at hl
   obtain ⟨l1,h1,e⟩:=hl
   cases e
   refine wp_block ?_
   simp only [bZ] at he
   split at he
   ·rename_i id'' s1 he1
    refine ih ca s s1 (.exit id'') a w h hd _ hF h1 he1 r fun a' w' h' hd' r'=>?_
    simp only [Ex.go,Exit.inBlock]
    split at he
    ·rename_i hid
     cases he
     rw [if_pos hid]
     exact hQ _ _ _ _ r'
    ·rename_i hid
     cases he
     rw [if_neg hid]
     exact hQ _ _ _ _ r'
   ·rename_i hne
    refine ih ca s s' ex a w h hd _ hF h1 he r fun a' w' h' hd' r'=>?_
    cases ex with
    | normal=>exact hQ _ _ _ _ r'
    | exit id=>exact absurd he (hne _ _)
    | ret=>exact hQ _ _ _ _ r'
  case loop=>rw [Option.map_eq_some_iff] at hl; obtain ⟨_,_,e⟩:=hl; cases e
  all_goals cases hl
 | loop x ih =>
  intro c s s' ex a w h hd Q hF hl he r hQ
  cases c <;> simp only [s7,aT.bare] at hl
  case region=>split at hl <;> first | (cases hl; done) | skip; split at hl <;> first | (cases hl; done) | skip; split at hl <;> cases hl
  case seq=>split at hl <;> cases hl
  case cond=>split at hl <;> cases hl
  case block=>rw [Option.map_eq_some_iff] at hl; obtain ⟨_,_,e⟩:=hl; cases e
  case loop ca =>
   rw [Option.map_eq_some_iff] at hl
   obtain ⟨l1,h1,e⟩:=hl
   cases e
   simp only [bZ] at he
   refine RT (fun k a w=>∃ s h hd,qW (bZ C n x) k s = some (ex,s') ∧ Rl nt w0 h0 s.get s.blk a w h hd) (fun a w ⟨s,h,hd,q,_⟩=>by simp [qW] at q) ?_ n a w ⟨s,h,hd,he,r⟩
   rintro k a w ⟨s,h,hd,q,r⟩
   simp only [qW] at q
   split at q
   ·rename_i s1 he1
    exact ih ca s s1 .normal a w h hd _ hF h1 he1 r fun a' w' h' hd' r'=>⟨s1,h',hd',q,r'⟩
   ·rename_i hne
    refine ih ca s s' ex a w h hd _ hF h1 q r fun a' w' h' hd' r'=>?_
    cases ex with
    | normal=>exact absurd q (hne _)
    | exit id=>exact hQ _ _ _ _ r'
    | ret=>exact hQ _ _ _ _ r'
  all_goals cases hl
 | exit id =>
  intro c s s' ex a w h hd Q hF hl he r hQ
  cases c <;> simp only [s7,aT.bare] at hl
  case region=>split at hl <;> first | (cases hl; done) | skip; split at hl <;> first | (cases hl; done) | skip; split at hl <;> cases hl
  case seq=>split at hl <;> cases hl
  case cond=>split at hl <;> cases hl
  case block=>rw [Option.map_eq_some_iff] at hl; obtain ⟨_,_,e⟩:=hl; cases e
  case loop=>rw [Option.map_eq_some_iff] at hl; obtain ⟨_,_,e⟩:=hl; cases e
  case exit=>cases hl; simp only [bZ,Option.some.injEq,Prod.mk.injEq] at he; obtain ⟨rfl,rfl⟩:=he; exact wp_exit (hQ _ _ _ _ r)
  all_goals cases hl
 | ret =>
  intro c s s' ex a w h hd Q hF hl he r hQ
  cases c <;> simp only [s7,aT.bare] at hl
  case region=>split at hl <;> first | (cases hl; done) | skip; split at hl <;> first | (cases hl; done) | skip; split at hl <;> cases hl
  case seq=>split at hl <;> cases hl
  case cond=>split at hl <;> cases hl
  case block=>rw [Option.map_eq_some_iff] at hl; obtain ⟨_,_,e⟩:=hl; cases e
  case loop=>rw [Option.map_eq_some_iff] at hl; obtain ⟨_,_,e⟩:=hl; cases e
  case ret=>simp only [bZ,Option.some.injEq,Prod.mk.injEq] at he; obtain ⟨rfl,rfl⟩:=he; exact wp_ret (hQ _ _ _ _ r)
  all_goals cases hl
 | hand g =>
  intro c s s' ex a w h hd Q hF hl he r hQ
  cases c <;> simp only [s7,aT.bare] at hl
  case region=>split at hl <;> first | (cases hl; done) | skip; split at hl <;> first | (cases hl; done) | skip; split at hl <;> cases hl
  case seq=>split at hl <;> cases hl
  case cond=>split at hl <;> cases hl
  case block=>rw [Option.map_eq_some_iff] at hl; obtain ⟨_,_,e⟩:=hl; cases e
  case loop=>rw [Option.map_eq_some_iff] at hl; obtain ⟨_,_,e⟩:=hl; cases e
  all_goals cases hl
 | inl ops args dst f body res id slots ih =>
  intro c s s' ex a w h hd Q hF hl he r hQ
  cases c <;> simp only [s7,aT.bare] at hl
  case region=>split at hl <;> first | (cases hl; done) | skip; split at hl <;> first | (cases hl; done) | skip; split at hl <;> cases hl
  case seq=>split at hl <;> cases hl
  case cond=>split at hl <;> cases hl
  case block=>rw [Option.map_eq_some_iff] at hl; obtain ⟨_,_,e⟩:=hl; cases e
  case loop=>rw [Option.map_eq_some_iff] at hl; obtain ⟨_,_,e⟩:=hl; cases e
  all_goals cases hl
 | inlv ops x nc args dst f body res id slots ih =>
  intro c s s' ex a w h hd Q hF hl he r hQ
  cases c <;> simp only [s7,aT.bare] at hl
  case region=>split at hl <;> first | (cases hl; done) | skip; split at hl <;> first | (cases hl; done) | skip; split at hl <;> cases hl
  case seq=>split at hl <;> cases hl
  case cond=>split at hl <;> cases hl
  case block=>rw [Option.map_eq_some_iff] at hl; obtain ⟨_,_,e⟩:=hl; cases e
  case loop=>rw [Option.map_eq_some_iff] at hl; obtain ⟨_,_,e⟩:=hl; cases e
  all_goals cases hl
 | pre m x ih =>
  intro c s s' ex a w h hd Q hF hl he r hQ
  simp only [aT.bare] at hl
  simp only [bZ] at he
  obtain ⟨h',hd',r'⟩:=JG r m
  exact ih c _ s' ex a w h' hd' Q hF hl he r' hQ
 | post x m ih =>
  intro c s s' ex a w h hd Q hF hl he r hQ
  simp only [aT.bare] at hl
  simp only [bZ] at he
  split at he
  ·rename_i s1 he1
   cases he
   refine ih c s s1 .normal a w h hd Q hF hl he1 r fun a' w' h' hd' r'=>?_
   obtain ⟨h'',hd'',r''⟩:=JG r' m
   exact hQ _ _ _ _ r''
  ·rename_i hne
   exact ih c s s' ex a w h hd Q hF hl he r hQ
end
end Vm
end Go.Proofs.Ytiimibimkpimbaa
set_option linter.unusedVariables false
set_option linter.unusedSimpArgs false
namespace Go.Proofs.Ytiimibimkpimbaa
namespace Vm
open Go.RowKit
def aDo:D→V
 | .tup _=>.any
 | x=>aFb x
def nT:Nat→List D→List (Nat × V)
 | _,[]=>[]
 | i,d :: ds=>(i,aDo d) :: nT (i + 1) ds
def aIc (bl:Nat→Option aK):V→List Nat
 | .own id ver=>match bl id with
  | some (.rows v _ _ _)=>if ver = v then [id] else []
  | _=>[]
 | .mp id=>match bl id with
  | some (.mp _ _)=>[id]
  | _=>[]
 | _=>[]
def aEV (bl:Nat→Option aK):V→List Nat
 | .agg cs=>cs.flatMap (aIc bl)
 | v=>aIc bl v
def HE (bl:Nat→Option aK):V→List Nat
 | .tup vs=>vs.flatMap (aEV bl)
 | v=>aEV bl v
def aEk:List Nat→Nat→Option Nat
 | [],_=>none
 | a :: l,x=>if a = x then some 0 else (aEk l x).map (· + 1)
def inN:List Nat→Nat→Bool
 | [],_=>false
 | a :: l,x=>if a = x then true else inN l x
def O1:List Nat→Bool
 | []=>true
 | a :: l=>if inN l a = true then false else O1 l
def aBd (bl:Nat→Option aK) (ids:List Nat):V→Option D
 | .d x=>some x
 | .nil=>some (.sl [])
 | .own id ver=>match bl id with
  | some (.rows v _ _ _)=>if ver = v then (aEk ids id).map .ref else none
  | some (.froz v rows)=>if ver = v then some (.sl rows) else none
  | _=>none
 | .mp id=>match bl id with
  | some (.mp _ _)=>(aEk ids id).map .mref
  | some (.fmp ek m)=>some (.mp ek m)
  | _=>none
 | _=>none
def ZZ (bl:Nat→Option aK) (ids:List Nat):V→Option D
 | .agg cs=>(bB (aBd bl ids) cs).map .agg
 | v=>aBd bl ids v
def toR (bl:Nat→Option aK) (ids:List Nat):V→Option D
 | .tup vs=>(bB (ZZ bl ids) vs).map .tup
 | v=>ZZ bl ids v
def aJH (bl:Nat→Option aK) (id:Nat):Option (Nat × Nat):=match bl id with
 | some (.rows _ e size _)=>if size = 0 then none else some (e,size)
 | some (.mp ek _)=>some (ek,0)
 | _=>none
def aIW (bl:Nat→Option aK) (id:Nat):Option (List (List D)):=match bl id with
 | some (.rows _ _ _ rows)=>some rows
 | some (.mp _ m)=>some (aI5 m)
 | _=>none
def tD (bl:Nat→Option aK) (v:V):Option D :=
 if O1 (HE bl v) = true then
  match toR bl (HE bl v) v,bB (aJH bl) (HE bl v),bB (aIW bl) (HE bl v) with
  | some x,some es,some rs=>some (.own x es rs)
  | _,_,_=>none
 else none
def CR (sf:gC) (s:St):Option D:=match bB (qT s) sf.results with
 | none=>none
 | some [v]=>if sf.fresh = true then tD s.blk v else i9 s.blk v
 | some vs=>if sf.fresh = true then tD s.blk (.tup vs) else toD s.blk (.tup vs)
def uG (sf:gC) (s:St) (t:Nat):Option D:=match s.get t with
 | .own id ver=>match s.blk id with
  | some (.rows v e size rows)=>if ver = v then match bB (qT s) sf.results with
    | none=>none
    | some [u]=>match i9 s.blk u with
     | some y=>if EM y = true then some (.own y [(e,size)] [rows]) else none
     | none=>none
    | some us=>match toD s.blk (.tup us) with
     | some y=>if EM y = true then some (.own y [(e,size)] [rows]) else none
     | none=>none
   else none
  | _=>none
 | _=>none
def wN (t:Nat) (ds:List D):St:=⟨(t,.own 900000 0) :: nT 0 ds,match (ds[t]?).bind JO with
 | some (e,size,rows)=>[(900000,some (.rows 0 e size rows))]
 | none=>[]⟩
def wW (t:Nat):aT→Bool
 | .region ops _=>ops.all fun o=>match o.dst with
  | some d=>d != t
  | none=>true
 | .seq a b=>wW t a && wW t b
 | .cond _ a b=>wW t a && wW t b
 | .block _ a=>wW t a
 | .loop a=>wW t a
 | .pre _ a=>wW t a
 | .post a _=>wW t a
 | _=>true
inductive Def where
 | code (sf:gC)
 | told (o:List D→Option D)
 /-- told,and lent a slice -/
 | toldL (o:List D→Option D)
abbrev u5:=Nat→Option Def
def iG (T:u5):Nat→Nat→List D→Option D
 | 0,_,_=>none
 | n + 1,f,args=>match T f with
  | none=>none
  | some (.told o)=>if hZ 0 args = none then o args else none
  | some (.toldL o)=>if (hZ 0 args).isSome = true then o args else none
  | some (.code sf)=>if args.length = sf.np then match hZ 0 args with
    | none=>match bZ (iG T n) n sf.body ⟨nT 0 args,[]⟩ with
     | some (.normal,s)=>CR sf s
     | some (.ret,s)=>CR sf s
     | _=>none
    | some t=>if sf.lend = true ∧ wW t sf.body = true then match bZ (iG T n) n sf.body (wN t args) with
      | some (.normal,s)=>uG sf s t
      | some (.ret,s)=>uG sf s t
      | _=>none
     else none
   else none
theorem EK:∀ (l:List D) (i t:Nat),lk (nT i l) .any t = if i ≤ t then (match l[t - i]? with | some d=>aDo d | none=>.any) else .any
 | [],i,t=>by simp [nT,lk]
 | d :: l,i,t=>by
  simp only [nT,lk,EK l (i + 1) t]
  by_cases e:t = i
  ·subst e; simp
  ·rw [if_neg e]
   by_cases h:i + 1 ≤ t
   ·rw [if_pos h,if_pos (by omega)]
    have:t - i = (t - (i + 1)) + 1:=by omega
    rw [this,List.getElem?_cons_succ]
   ·rw [if_neg h,if_neg (by omega)]
section
variable {P:Program}
theorem X7 {h:Hp} {hd:Nat→Value} {bl:Nat→Option aK} {v:Value} {d:D} (r:bL h v d):R3 h hd bl v (aDo d):=by
 cases d with
 | tup vs=>trivial
 | agg cs=>exact R3.of2 (sV r (fun vs e=>by cases e))
 | int k n=>exact R3.of2 (sV r (fun vs e=>by cases e))
 | bool b=>exact R3.of2 (sV r (fun vs e=>by cases e))
 | str s=>exact R3.of2 (sV r (fun vs e=>by cases e))
 | sl rows=>exact R3.of2 (sV r (fun vs e=>by cases e))
 | ptr row off=>exact R3.of2 (sV r (fun vs e=>by cases e))
 | fn f caps=>exact R3.of2 (sV r (fun vs e=>by cases e))
 | np=>exact R3.of2 (sV r (fun vs e=>by cases e))
 | mp ek m=>exact R3.of2 (sV r (fun vs e=>by cases e))
 | ref n=>cases r
 | mref n=>cases r
 | own x es rs=>cases r
theorem rM {nt:Nat} {w0:fD} {w:World} {h0 h:Hp} {s:St} {a:Act} {hd:Nat→Value} (r:Rl nt w0 h0 s.get s.blk a w h hd):∀ (l:List ResultVar) (rs:List mS) (vs:List V),bB (I1 P) l = some rs→bB (qT s) rs = some vs →
  ∃ cvs:List Value,(l.mapM fun x=>(match x with | .tmp t=>pure (a.tmps.getD t undef) | .cell b t=>do loadVar t (← asAddr (a.tmps.getD b undef)):Sem Value)).run P w = .ok cvs w ∧ cvs.length = vs.length ∧ ∀ (j:Nat) (x:V),vs[j]? = some x→R3 h hd s.blk (cvs.getD j undef) x
 | [],rs,vs,h1,h2=>by
  simp only [bB,Option.some.injEq] at h1
  subst h1
  simp only [bB,Option.some.injEq] at h2
  subst h2
  exact ⟨[],by simp,rfl,fun j x hx=>by simp at hx⟩
 | x :: l,rs,vs,h1,h2=>by
  simp only [bB] at h1
  split at h1
  ·cases h1
  ·rename_i y hy
   split at h1
   ·cases h1
   ·rename_i ys hys
    cases h1
    simp only [bB] at h2
    split at h2
    ·cases h2
    ·rename_i v hv
     split at h2
     ·cases h2
     ·rename_i us hus
      cases h2
      obtain ⟨cvs,g1,g2,g3⟩:=rM r l ys us hys hus
      have hone:∃ cv,((match x with | .tmp t=>pure (a.tmps.getD t undef) | .cell b t=>do loadVar t (← asAddr (a.tmps.getD b undef)):Sem Value)).run P w = .ok cv w ∧ R3 h hd s.blk cv v:=by
       cases x with
       | tmp t =>
        simp only [I1,Option.some.injEq] at hy
        subst hy
        simp only [qT,Option.some.injEq] at hv
        subst hv
        exact ⟨_,rfl,r.frame t⟩
       | cell b t =>
        simp only [I1] at hy
        split at hy
        ·rename_i ag i hag hi
         cases hy
         simp only [qT] at hv
         split at hv
         ·rename_i v' wr hload
          cases hv
          have:=YV (P:=P) (C:=fun _ _=>none) (site:=0) (x:=.t b) (xv:=a.tmps.getD b undef) r hag hi (r.frame b) (v:=v) (wr:=wr) (by simpa [eC,cX] using hload)
          obtain ⟨_,cv,q1,q2⟩:=this
          refine ⟨cv,?_,q2⟩
          cases hp:a.tmps.getD b undef <;> rw [hp] at q1 <;> first | (simp [Instr.loadAt,Instr.sureAddr] at q1; done) | skip
          rename_i ao
          cases ao with
          | none=>simp [Instr.loadAt,Instr.sureAddr] at q1
          | some ad =>
           have hp' : a.tmps[b]?.getD undef = .pointer (some ad):=by simpa using hp
           simpa [Instr.loadAt,Instr.sureAddr,asAddr,hp'] using q1
         ·cases hv
        ·cases hy
      obtain ⟨cv,q1,q2⟩:=hone
      refine ⟨cv :: cvs,?_,by simp [g2],fun j z hz=>?_⟩
      ·rw [List.mapM_cons]
       simp only [Sem.run_bind,q1,Result.andThen_ok,g1,Sem.run_pure]
      ·cases j with
       | zero=>simp at hz; subst hz; simpa using q2
       | succ j=>simpa using g3 j z (by simpa using hz)
theorem bL.toF {base:fD} {w:World} {h:Hp} {v:Value} {x:D} (r:bL h v x):GR base w h v x:=by
 cases x <;> first | exact r | (cases r; done)
theorem WL {bl:Nat→Option aK} {vs:List V} {x:D} (e:tD bl (.tup vs) = some x) {j:Nat} {z:V} (hz:vs[j]? = some z):∃ y,ZZ bl (HE bl (.tup vs)) z = some y:=by
 unfold tD at e
 split at e
 ·split at e
  ·rename_i y es rs hy hes hrs
   simp only [toR,Option.map_eq_some_iff] at hy
   obtain ⟨ds,hm,_⟩:=hy
   obtain ⟨y,_,h2⟩:=(cA hm).2 j z hz
   exact ⟨y,h2⟩
  ·cases e
 ·cases e
theorem GG:∀ {l:List Nat} {x n:Nat},aEk l x = some n→l[n]? = some x
 | [],x,n,e=>by cases e
 | a :: l,x,n,e=>by
  simp only [aEk] at e
  split at e
  ·rename_i hx; cases e; simp [hx]
  ·rw [Option.map_eq_some_iff] at e
   obtain ⟨m,h1,rfl⟩:=e
   simpa using GG h1
theorem G4:∀ {l:List Nat} {x:Nat},inN l x = false→∀ n:Nat,l[n]? ≠ some x
 | [],x,_,n=>by simp
 | a :: l,x,e,n=>by
  simp only [inN] at e
  split at e
  ·cases e
  ·rename_i hx
   cases n with
   | zero=>simpa using hx
   | succ n=>simpa using G4 e n
theorem LL:∀ {l:List Nat},O1 l = true→∀ {n m x:Nat},l[n]? = some x→l[m]? = some x→n = m
 | [],_,n,m,x,h1,h2=>by simp at h1
 | a :: l,e,n,m,x,h1,h2=>by
  simp only [O1] at e
  split at e
  ·cases e
  ·rename_i hx
   have hx:inN l a = false:=by simpa using hx
   cases n with
   | zero=>cases m with
    | zero=>rfl
    | succ m=>simp at h1 h2; subst h1; exact absurd h2 (G4 hx m)
   | succ n=>cases m with
    | zero=>simp at h1 h2; subst h2; exact absurd h1 (G4 hx n)
    | succ m=>simp at h1 h2; rw [LL e h1 h2]
theorem aC2 {site n m:Nat} (e:yF site n = yF site m):n = m:=by unfold yF at e; omega
theorem aBJ (site n:Nat):(yF site n - site) / 100000 - 1 = n:=by
 unfold yF
 rw [Nat.add_sub_cancel_left,Nat.mul_div_cancel_left _ (by decide)]
 omega
theorem JT (site:Nat):∀ (es:List (Nat × Nat)) (rs:List (List (List D))) (k n:Nat) (e size:Nat) (rows:List (List D)),es[n]? = some (e,size)→rs[n]? = some rows→lk (gJ site k es rs) none (yF site (k + n)) = some (wJ e size rows)
 | [],rs,k,n,e,size,rows,h1,h2=>by simp at h1
 | p :: es,[],k,n,e,size,rows,h1,h2=>by simp at h2
 | (e',s') :: es,r :: rs,k,n,e,size,rows,h1,h2=>by
  simp only [gJ,lk]
  cases n with
  | zero=>simp at h1 h2; simp [h1,h2]
  | succ n =>
   rw [if_neg (fun q=>by have:=aC2 q; omega),show k + (n + 1) = (k + 1) + n by omega]
   exact JT site es rs (k + 1) n e size rows (by simpa using h1) (by simpa using h2)
theorem FA (site:Nat):∀ (es:List (Nat × Nat)) (rs:List (List (List D))) (k id:Nat) (b:aK),lk (gJ site k es rs) none id = some b→∃ n e size rows,id = yF site (k + n) ∧ es[n]? = some (e,size) ∧ rs[n]? = some rows ∧ b = wJ e size rows
 | [],rs,k,id,b,h=>by simp [gJ,lk] at h
 | p :: es,[],k,id,b,h=>by simp [gJ,lk] at h
 | (e',s') :: es,r :: rs,k,id,b,h=>by
  simp only [gJ,lk] at h
  split at h
  ·rename_i hi
   cases h
   exact ⟨0,e',s',r,hi,rfl,rfl,rfl⟩
  ·obtain ⟨n,e,size,rows,h1,h2,h3,h4⟩:=FA site es rs (k + 1) id b h
   exact ⟨n + 1,e,size,rows,by rw [h1,show k + 1 + n = k + (n + 1) by omega],by simpa using h2,by simpa using h3,h4⟩
theorem YF:∀ m:List (Int × ML),aJn (aI5 m) = m
 | []=>rfl
 | (k,v) :: r=>by
  have:=YF r
  unfold aJn aI5 at *
  rw [List.map_cons,List.map_cons,this]
  cases v <;> rfl
def yX:aK→Option aK
 | .rows _ e size rows=>if size = 0 then none else some (.rows 0 e size rows)
 | .mp ek m=>some (.mp ek m)
 | _=>none
theorem ND {bl:Nat→Option aK} {id e size:Nat} {rows:List (List D)} (h:aJH bl id = some (e,size)) (h2:aIW bl id = some rows):∃ b,bl id = some b ∧ yX b = some (wJ e size rows):=by
 unfold aJH at h
 unfold aIW at h2
 cases hb:bl id with
 | none=>rw [hb] at h; cases h
 | some b =>
  rw [hb] at h h2
  refine ⟨b,rfl,?_⟩
  cases b <;> simp only at h h2 <;> first | (cases h; done) | skip
  ·split at h
   ·cases h
   ·rename_i hs
    cases h
    cases h2
    simp only [yX,wJ,if_neg hs]
  ·cases h
   cases h2
   simp only [yX,wJ,if_true,YF]
section
variable {nt:Nat} {w0:fD} {w:World} {h0 h:Hp} {fr:Nat→V} {bl:Nat→Option aK} {a:Act} {hd hd0:Nat→Value} {nb:Nat→Option aK} {ids:List Nat} {site:Nat}
theorem YX (r:Rl nt w0 h0 fr bl a w h hd) (hnew:∀ n id b b',ids[n]? = some id→bl id = some b→yX b = some b'→nb (yF site n) = some b') (hhd:∀ n id,ids[n]? = some id→hd0 (yF site n) = hd id)
  {u:Value} {z:V} (hu:R1 h hd bl u z) {d:D} (e:aBd bl ids z = some d):R1 h hd0 nb u (T9 site d) ∧ d.atom = true:=by
 cases z with
 | d x =>
  cases e
  obtain ⟨g1,g2⟩:=hu
  refine ⟨?_,g1⟩
  cases d <;> first | exact ⟨g1,g2⟩ | (cases g2; done)
 | nil =>
  cases e
  exact ⟨⟨rfl,by rw [show u = _ from hu]; exact .sl0 none 0 (fun _=>rfl)⟩,rfl⟩
 | own id ver =>
  obtain ⟨b,c,hb,hc,hle,h1,he⟩:=hu
  simp only [aBd,hb] at e
  cases b with
  | rows v e' s rows =>
   simp only at e
   split at e
   ·rename_i hv
    rw [Option.map_eq_some_iff] at e
    obtain ⟨n,hn,rfl⟩:=e
    have hi:=GG hn
    have hs:¬ s = 0:=by have:=(r.blk id _ hb).1; omega
    refine ⟨⟨_,0,hnew n id _ (.rows 0 e' s rows) hi hb (by simp only [yX,if_neg hs]),rfl,Nat.le_refl _,h1,fun _=>?_⟩,rfl⟩
    rw [hhd n id hi]
    exact he (by simp only [aK.ver?,Option.some.injEq] at hc; omega)
   ·cases e
  | froz v rows =>
   simp only at e
   split at e
   ·rename_i hv
    cases e
    refine ⟨⟨rfl,?_⟩,rfl⟩
    rw [he (by simp only [aK.ver?,Option.some.injEq] at hc; omega)]
    exact r.blk id _ hb
   ·cases e
  | _=>cases e
 | mp id =>
  obtain ⟨⟨b,hb,hbx⟩,rfl,g,hg⟩:=hu
  simp only [aBd,hb] at e
  cases b with
  | mp ek m =>
   simp only at e
   rw [Option.map_eq_some_iff] at e
   obtain ⟨n,hn,rfl⟩:=e
   have hi:=GG hn
   exact ⟨⟨⟨_,hnew n id _ (.mp ek m) hi hb rfl,rfl⟩,(hhd n id hi).symm,g,(hhd n id hi).trans hg⟩,rfl⟩
  | fmp ek m =>
   simp only [Option.some.injEq] at e
   subst e
   exact ⟨⟨rfl,r.blk id _ hb⟩,rfl⟩
  | _=>cases e
 | _=>cases e
theorem XZ (r:Rl nt w0 h0 fr bl a w h hd) (hnew:∀ n id b b',ids[n]? = some id→bl id = some b→yX b = some b'→nb (yF site n) = some b') (hhd:∀ n id,ids[n]? = some id→hd0 (yF site n) = hd id)
  {u:Value} {z:V} (hu:R2 h hd bl u z) {d:D} (e:ZZ bl ids z = some d):R2 h hd0 nb u (OH site d) ∧ d.noTup = true:=by
 have one:R1 h hd bl u z→aBd bl ids z = some d→R2 h hd0 nb u (OH site d) ∧ d.noTup = true:=fun q1 q2=>by
  obtain ⟨g1,g2⟩:=YX r hnew hhd q1 q2
  cases d <;> first | (cases g2; done) | exact ⟨R2.of1 g1,rfl⟩
 cases z with
 | agg cs =>
  obtain ⟨arr,rfl,hl,hc⟩:=hu
  simp only [ZZ,Option.map_eq_some_iff] at e
  obtain ⟨ds,hm,rfl⟩:=e
  obtain ⟨m1,m2⟩:=cA hm
  refine ⟨⟨arr,rfl,by simp; omega,fun j x hx=>?_⟩,rfl⟩
  rw [List.getElem?_map,Option.map_eq_some_iff] at hx
  obtain ⟨y,hy,rfl⟩:=hx
  obtain ⟨z,z1,z2⟩:=cY hm hy
  exact ⟨(YX r hnew hhd (hc j z z1).1 z2).1,(hc j z z1).2⟩
 | _=>exact one hu e
theorem aJa (r:Rl nt w0 h0 fr bl a w h hd) (hnew:∀ n id b b',ids[n]? = some id→bl id = some b→yX b = some b'→nb (yF site n) = some b') (hhd:∀ n id,ids[n]? = some id→hd0 (yF site n) = hd id)
  {u:Value} {z:V} (hu:R3 h hd bl u z) {d:D} (e:toR bl ids z = some d):R3 h hd0 nb u (thaw site d):=by
 have one:R2 h hd bl u z→ZZ bl ids z = some d→R3 h hd0 nb u (thaw site d):=fun q1 q2=>by
  obtain ⟨g1,g2⟩:=XZ r hnew hhd q1 q2
  cases d <;> first | (cases g2; done) | exact R3.of2 g1
 cases z with
 | tup vs =>
  obtain ⟨arr,rfl,hl,hc⟩:=hu
  simp only [toR,Option.map_eq_some_iff] at e
  obtain ⟨ds,hm,rfl⟩:=e
  obtain ⟨m1,m2⟩:=cA hm
  refine ⟨arr,rfl,by simp; omega,fun j x hx=>?_⟩
  rw [List.getElem?_map,Option.map_eq_some_iff] at hx
  obtain ⟨y,hy,rfl⟩:=hx
  obtain ⟨z,z1,z2⟩:=cY hm hy
  exact (XZ r hnew hhd (hc j z z1) z2).1
 | _=>exact one hu e
theorem S6 (r:Rl nt w0 h0 fr bl a w h hd) {cv:Value} {v:V} (hv:R3 h hd bl cv v) {x:D} (e:tD bl v = some x):GR w0 w h cv x:=by
 unfold tD at e
 split at e
 ·rename_i hnd
  split at e
  ·rename_i y es rs hy hes hrs
   cases e
   intro site
   generalize hids:HE bl v = ids at hnd hy hes hrs
   have hhd:∀ n id,ids[n]? = some id→(fun i=>hd (ids.getD ((i - site) / 100000 - 1) 0)) (yF site n) = hd id:=fun n id hn=>by
    simp only [aBJ,List.getD_eq_getElem?_getD,hn,Option.getD_some]
   have hE:=cA hes
   have hR:=cA hrs
   have hnew:∀ n id b b',ids[n]? = some id→bl id = some b→yX b = some b'→K6 site es rs (yF site n) = some b':=fun n id b b' hn hb hg=>by
    obtain ⟨⟨e1,s1⟩,g1,g2⟩:=hE.2 n id hn
    obtain ⟨rows1,g3,g4⟩:=hR.2 n id hn
    obtain ⟨b0,q1,q2⟩:=ND g2 g4
    rw [hb] at q1
    cases q1
    rw [hg] at q2
    cases q2
    have:=JT site es rs 0 n e1 s1 rows1 g1 g3
    rw [Nat.zero_add] at this
    exact this
   have hback:∀ i b,K6 site es rs i = some b→∃ n id b0,i = yF site n ∧ ids[n]? = some id ∧ bl id = some b0 ∧ yX b0 = some b:=fun i b hb=>by
    obtain ⟨n,e,size,rows,h1,h2,h3,h4⟩:=FA site es rs 0 i b hb
    obtain ⟨id,g1,g2⟩:=cY hes h2
    obtain ⟨y2,g4,g5⟩:=hR.2 n id g1
    rw [h3] at g4
    cases g4
    obtain ⟨b0,q1,q2⟩:=ND g2 g5
    exact ⟨n,id,b0,by rw [h1,Nat.zero_add],g1,q1,by rw [q2,h4]⟩
   have hlv:∀ b0 b:aK,yX b0 = some b→b0.live = true:=fun b0 b hg=>by
    cases b0 <;> first | rfl | (simp [yX] at hg)
   refine ⟨fun i=>hd (ids.getD ((i - site) / 100000 - 1) 0),aJa r hnew hhd hv hy,fun i b hb=>?_,fun i j bi bj g hi hj gi gj=>?_⟩
   ·obtain ⟨n,id,b0,rfl,h2,h3,h4⟩:=hback i b hb
    have hb':=r.blk id _ h3
    have hh:=hhd n id h2
    cases b0 with
    | rows ver e size rows =>
     simp only [yX] at h4
     split at h4
     ·cases h4
     ·cases h4
      obtain ⟨k1,k2,⟨xs,k3,k4⟩,k5⟩:=hb'
      exact ⟨k1,k2,⟨xs,by rw [hh]; exact k3,k4⟩,by rw [hh]; exact k5⟩
    | mp ek m =>
     simp only [yX,Option.some.injEq] at h4
     subst h4
     obtain ⟨g,k1,k2⟩:=hb'
     exact ⟨g,hh.trans k1,k2⟩
    | _=>cases h4
   ·obtain ⟨n,id,b0,rfl,h2,h3,h4⟩:=hback i bi hi
    obtain ⟨m,id',b0',rfl,h2',h3',h4'⟩:=hback j bj hj
    rw [hhd n id h2] at gi
    rw [hhd m id' h2'] at gj
    have:=r.sep id id' _ _ g h3 h3' (hlv _ _ h4) (hlv _ _ h4') gi gj
    subst this
    rw [LL hnd h2 h2']
  ·cases e
 ·cases e
end
def aF (P:Program) (nt:Nat) (c:Code) (sc:aT):Prop:=∀ (C:Nat→List D→Option D),qN P C→∀ (n:Nat) (w0:fD) (h0:Hp) (s s' : St) (ex:Ex) (a:Act) (w:World) (h:Hp) (hd:Nat→Value) (Q:Exit→Act→World→Prop),
 (∀ t,w0.F t = none)→bZ C n sc s = some (ex,s')→Rl nt w0 h0 s.get s.blk a w h hd→(∀ a' w' h' hd',Rl nt w0 h0 s'.get s'.blk a' w' h' hd'→Q ex.go a' w')→c.wp P Q a w
def EG (P:Program) (fn:Func) (sf:gC):Prop :=
 fn.params.size + fn.nfree = sf.np ∧ fn.name ≠ "runtime.NumGoroutine" ∧ fn.ntmps = sf.nt ∧ sf.np ≤ sf.nt ∧ bB (I1 P) fn.results.toList = some sf.results ∧ ∃ c,fn.body = some c ∧ (P.follows .mixedOrders = true→aF P sf.nt c sf.body) ∧ (sf.lend = true→s7 P sf.nt c = some sf.body.bare)
theorem aF.low {nt:Nat} {c:Code} {sc:aT} (hm:P.follows .mixedOrders = true) (h:s7 P nt c = some sc.bare):aF P nt c sc :=
 fun C hC n w0 h0 s s' ex a w h' hd Q hF he r hQ=>XR hC hm n sc c s s' ex a w h' hd Q (uU.none hF c) h he r hQ
theorem pO.g {fn:Func} {sf:gC} (l:pO P fn sf):EG P fn sf:=by
 obtain ⟨l1,l2,l3,l4,l5,c,l6,l7⟩:=l
 exact ⟨l1,l2,l3,l4,l5,c,l6,fun hm=>aF.low hm l7,fun _=>l7⟩
theorem aF.seq {nt:Nat} {c d:Code} {x y:aT} (h1:aF P nt c x) (h2:aF P nt d y):aF P nt (.seq c d) (.seq x y):=by
 intro C hC n w0 h0 s s' ex a w h hd Q hF he r hQ
 refine wp_seq ?_
 simp only [bZ] at he
 split at he
 ·rename_i s1 he1
  exact h1 C hC n w0 h0 s s1 .normal a w h hd _ hF he1 r fun a' w' h' hd' r'=>h2 C hC n w0 h0 s1 s' ex a' w' h' hd' Q hF he r' hQ
 ·rename_i hne
  refine h1 C hC n w0 h0 s s' ex a w h hd _ hF he r fun a' w' h' hd' r'=>?_
  cases ex with
  | normal=>exact absurd he (hne _)
  | exit id=>exact hQ _ _ _ _ r'
  | ret=>exact hQ _ _ _ _ r'
theorem aF.pre {nt:Nat} {c:Code} {x:aT} (m:xS) (h1:aF P nt c x):aF P nt c (.pre m x):=by
 intro C hC n w0 h0 s s' ex a w h hd Q hF he r hQ
 simp only [bZ] at he
 obtain ⟨h',hd',r'⟩:=JG r m
 exact h1 C hC n w0 h0 _ s' ex a w h' hd' Q hF he r' hQ
theorem aF.post {nt:Nat} {c:Code} {x:aT} (m:xS) (h1:aF P nt c x):aF P nt c (.post x m):=by
 intro C hC n w0 h0 s s' ex a w h hd Q hF he r hQ
 simp only [bZ] at he
 split at he
 ·rename_i s1 he1
  cases he
  refine h1 C hC n w0 h0 s s1 .normal a w h hd Q hF he1 r fun a' w' h' hd' r'=>?_
  obtain ⟨h'',hd'',r''⟩:=JG r' m
  exact hQ _ _ _ _ r''
 ·rename_i hne
  exact h1 C hC n w0 h0 s s' ex a w h hd Q hF he r hQ
theorem aD3 {nt t:Nat} {w0:fD} (hF:∀ d,d ≠ t→w0.F d = none):∀ (sc:aT) (c:Code),s7 P nt c = some sc.bare→wW t sc = true→uU w0 c:=by
 intro sc
 induction sc with
 | region ops draw =>
  intro c hl hn
  cases c <;> simp only [s7,aT.bare] at hl
  case region id rops dr =>
   have key:bB (lG P nt rops) rops.toList = some (ops.map bK.bare):=by
    split at hl
    ·cases hl
    ·rename_i l hlow
     rw [hlow]
     split at hl
     ·split at hl
      ·cases hl; rfl
      ·cases hl
     ·cases hl; rfl
   intro o ho d hd
   obtain ⟨i,hi⟩:=List.mem_iff_getElem?.1 ho
   obtain ⟨so,q1,q2⟩:=(cA key).2 i o hi
   rw [List.getElem?_map,Option.map_eq_some_iff] at q1
   obtain ⟨so',q3,rfl⟩:=q1
   have hdst:so'.dst = o.dst:=by
    unfold lG at q2
    split at q2
    ·split at q2
     ·have:=congrArg (fun z=>z.map bK.dst) q2; simpa [bK.bare] using this.symm
     ·split at q2
      ·have:=congrArg (fun z=>z.map bK.dst) q2; simpa [bK.bare] using this.symm
      ·cases q2
    ·cases q2
   have:=List.all_eq_true.1 hn so' (List.mem_of_getElem? q3)
   rw [hdst,hd] at this
   exact hF d (by simpa using this)
  case seq=>split at hl <;> cases hl
  case cond=>split at hl <;> cases hl
  case block=>rw [Option.map_eq_some_iff] at hl; obtain ⟨_,_,e⟩:=hl; cases e
  case loop=>rw [Option.map_eq_some_iff] at hl; obtain ⟨_,_,e⟩:=hl; cases e
  all_goals cases hl
 | seq x y ihx ihy =>
  intro c hl hn
  simp only [wW,Bool.and_eq_true] at hn
  cases c <;> simp only [s7,aT.bare] at hl
  case region=>split at hl <;> first | (cases hl; done) | skip; split at hl <;> first | (cases hl; done) | skip; split at hl <;> cases hl
  case seq ca cb =>
   split at hl
   ·rename_i l1 l2 h1 h2
    cases hl
    exact ⟨ihx ca h1 hn.1,ihy cb h2 hn.2⟩
   ·cases hl
  case cond=>split at hl <;> cases hl
  case block=>rw [Option.map_eq_some_iff] at hl; obtain ⟨_,_,e⟩:=hl; cases e
  case loop=>rw [Option.map_eq_some_iff] at hl; obtain ⟨_,_,e⟩:=hl; cases e
  all_goals cases hl
 | cond q x y ihx ihy =>
  intro c hl hn
  simp only [wW,Bool.and_eq_true] at hn
  cases c <;> simp only [s7,aT.bare] at hl
  case region=>split at hl <;> first | (cases hl; done) | skip; split at hl <;> first | (cases hl; done) | skip; split at hl <;> cases hl
  case seq=>split at hl <;> cases hl
  case cond co ca cb =>
   split at hl
   ·rename_i l0 l1 l2 h1 h2 h3
    cases hl
    exact ⟨ihx ca h2 hn.1,ihy cb h3 hn.2⟩
   ·cases hl
  case block=>rw [Option.map_eq_some_iff] at hl; obtain ⟨_,_,e⟩:=hl; cases e
  case loop=>rw [Option.map_eq_some_iff] at hl; obtain ⟨_,_,e⟩:=hl; cases e
  all_goals cases hl
 | block id x ih =>
  intro c hl hn
  cases c <;> simp only [s7,aT.bare] at hl
  case region=>split at hl <;> first | (cases hl; done) | skip; split at hl <;> first | (cases hl; done) | skip; split at hl <;> cases hl
  case seq=>split at hl <;> cases hl
  case cond=>split at hl <;> cases hl
  case block id' ca=>rw [Option.map_eq_some_iff] at hl; obtain ⟨l1,h1,e⟩:=hl; cases e; exact ih ca h1 hn
  case loop=>rw [Option.map_eq_some_iff] at hl; obtain ⟨_,_,e⟩:=hl; cases e
  all_goals cases hl
 | loop x ih =>
  intro c hl hn
  cases c <;> simp only [s7,aT.bare] at hl
  case region=>split at hl <;> first | (cases hl; done) | skip; split at hl <;> first | (cases hl; done) | skip; split at hl <;> cases hl
  case seq=>split at hl <;> cases hl
  case cond=>split at hl <;> cases hl
  case block=>rw [Option.map_eq_some_iff] at hl; obtain ⟨_,_,e⟩:=hl; cases e
  case loop ca=>rw [Option.map_eq_some_iff] at hl; obtain ⟨l1,h1,e⟩:=hl; cases e; exact ih ca h1 hn
  all_goals cases hl
 | pre m x ih=>intro c hl hn; exact ih c hl hn
 | post x m ih=>intro c hl hn; exact ih c hl hn
 | _ =>
  intro c hl hn
  cases c <;> simp only [s7,aT.bare] at hl
  case region=>split at hl <;> first | (cases hl; done) | skip; split at hl <;> first | (cases hl; done) | skip; split at hl <;> cases hl
  case seq=>split at hl <;> cases hl
  case cond=>split at hl <;> cases hl
  case block=>rw [Option.map_eq_some_iff] at hl; obtain ⟨_,_,e⟩:=hl; cases e
  case loop=>rw [Option.map_eq_some_iff] at hl; obtain ⟨_,_,e⟩:=hl; cases e
  all_goals first | trivial | cases hl
section
variable {h:Hp} {hd:Nat→Value} {bl bl' : Nat→Option aK} {v:Value} {id:Nat} {cs:List V}
theorem R1.drop (ho:bl id = some (.outer cs)) (he:∀ i,i ≠ id→bl' i = bl i):∀ {x:V},R1 h hd bl v x→R1 h hd bl' v x:=by
 intro x r
 cases x with
 | ptr i off =>
  obtain ⟨⟨b,hb,hx⟩,q⟩:=r
  have:i ≠ id:=fun e=>by rw [e,ho] at hb; cases hb; cases hx
  exact ⟨⟨b,by rw [he i this]; exact hb,hx⟩,q⟩
 | own i ver =>
  obtain ⟨b,c,hb,hc,q⟩:=r
  have:i ≠ id:=fun e=>by rw [e,ho] at hb; cases hb; cases hc
  exact ⟨b,c,by rw [he i this]; exact hb,hc,q⟩
 | orow i ver j off =>
  obtain ⟨b,c,hb,hc,q⟩:=r
  have:i ≠ id:=fun e=>by rw [e,ho] at hb; cases hb; cases hc
  exact ⟨b,c,by rw [he i this]; exact hb,hc,q⟩
 | mp i =>
  obtain ⟨⟨b,hb,hx⟩,q⟩:=r
  have:i ≠ id:=fun e=>by rw [e,ho] at hb; cases hb; cases hx
  exact ⟨⟨b,by rw [he i this]; exact hb,hx⟩,q⟩
 | any=>exact r
 | d x=>exact r
 | nil=>exact r
 | agg cs=>exact r
 | tup cs=>exact r
 | fn f caps =>
  obtain ⟨arr,e,hs,hr⟩:=r
  refine ⟨arr,e,hs,fun j x hx=>?_⟩
  have hxr:=hr j x hx
  cases x with
  | ptr i off =>
   obtain ⟨⟨b,hb,hx⟩,q⟩:=hxr
   have:i ≠ id:=fun e=>by rw [e,ho] at hb; cases hb; cases hx
   exact ⟨⟨b,by rw [he i this]; exact hb,hx⟩,q⟩
  | _=>exact hxr.elim
theorem R2.drop (ho:bl id = some (.outer cs)) (he:∀ i,i ≠ id→bl' i = bl i):∀ {x:V},R2 h hd bl v x→R2 h hd bl' v x:=by
 intro x r
 cases x with
 | agg cs =>
  obtain ⟨arr,e,hs,hr⟩:=r
  exact ⟨arr,e,hs,fun j x hx=>⟨(hr j x hx).1.drop ho he,(hr j x hx).2⟩⟩
 | _=>exact R2.of1 (R1.drop ho he r)
theorem R3.drop (ho:bl id = some (.outer cs)) (he:∀ i,i ≠ id→bl' i = bl i):∀ {x:V},R3 h hd bl v x→R3 h hd bl' v x:=by
 intro x r
 cases x with
 | tup cs =>
  obtain ⟨arr,e,hs,hr⟩:=r
  exact ⟨arr,e,hs,fun j x hx=>(hr j x hx).drop ho he⟩
 | _=>exact R3.of2 (R2.drop ho he r)
theorem BR.drop {b0 b1:fD} {w:World} {i:Nat} {b:aK} (hown:∀ g,b1.own g→b0.own g) (hO:b0.O i = b1.O i) (ho:bl id = some (.outer cs)) (he:∀ i,i ≠ id→bl' i = bl i) (r:BR b1 w h hd bl i b):BR b0 w h hd bl' i b:=by
 cases b with
 | box cs =>
  obtain ⟨g,arr,e,h1,h2,h3,h4,h5,h6⟩:=r
  exact ⟨g,arr,e,h1,hown g h2,h3,h4,fun j x hx=>⟨(h5 j x hx).1.drop ho he,(h5 j x hx).2⟩,h6⟩
 | rows ver e size rows =>
  obtain ⟨h1,h2,h3,h4⟩:=r
  exact ⟨h1,h2,h3,fun g hg=>⟨(h4 g hg).1,hown g (h4 g hg).2⟩⟩
 | froz ver rows=>exact r
 | fbox cs=>exact r
 | mp ek m =>
  obtain ⟨g,h1,h2,h3⟩:=r
  exact ⟨g,h1,hown g h2,h3⟩
 | fmp ek m=>exact r
 | outer cs =>
  intro j x hx
  rw [hO]
  exact (r j x hx).drop ho he
end
theorem OK:∀ (l:List V) (i t:Nat),lk (uJ i l) .any t = if i ≤ t then l.getD (t - i) .any else .any
 | [],i,t=>by simp [uJ,lk]
 | d :: l,i,t=>by
  simp only [uJ,lk,OK l (i + 1) t]
  by_cases e:t = i
  ·subst e; simp
  ·rw [if_neg e]
   by_cases h:i + 1 ≤ t
   ·rw [if_pos h,if_pos (by omega)]
    have:t - i = (t - (i + 1)) + 1:=by omega
    rw [this,List.getD_cons_succ]
   ·rw [if_neg h,if_neg (by omega)]
theorem aE0 {C:Nat→List D→Option D} (hC:qN P C) {n nt ix:Nat} {rops:Array Oper} {L:List bK} {dst:Option Nat} {f:Nat} {lop:i7} {ws:List V} {body:aT} {res:List mS} {id:Nat} {slots:List Nat} {fn:Func} {c' : Code}
  (hlow:bB (lG P nt rops) rops.toList = some L) (hLi:L[ix]? = some ⟨dst,lop,none,dst.getD 0⟩) (hfn:P.funcs[f]? = some fn) (l6:fn.body = some c') (l3:ws.length ≤ fn.ntmps) (l5:bB (I1 P) fn.results.toList = some res)
  (hb:aF P fn.ntmps c' body) {w0:fD} {h0:Hp} {s1 s2 s3 s' : St} {ex' : Ex} {a1:Act} {w1:World} {h1:Hp} {hd1:Nat→Value} {Q:Exit→Act→World→Prop} {K:Act→World→Prop}
  (hF:∀ t,w0.F t = none) (r1:Rl nt w0 h0 s1.get s1.blk a1 w1 h1 hd1)
  (hs2:HD ws id slots s1 = some s2) (hev:bZ C n body s2 = some (ex',s3)) (hout:pE dst res id slots s3 = some s') (hex:ex' = .normal ∨ ex' = .ret)
  (hop:∀ (o:Oper) (a1:Act) (w1:World) (h1:Hp) (hd1:Nat→Value),tL P o = lop→Rl nt w0 h0 s1.get s1.blk a1 w1 h1 hd1→∃ vs:Array Value,vs.size = ws.length ∧ (∀ (j:Nat) (y:V),ws[j]? = some y→R3 h1 hd1 s1.blk (vs.getD j undef) y) ∧ (execOp a1.eval o).run P w1 = .ok (.enter f vs) w1)
  (hQ:∀ a' w' h' hd',Rl nt w0 h0 s'.get s'.blk a' w' h' hd'→K a' w'):wpOp P rops Q ix K a1 w1:=by
 have hOF:JZ w0 rops:=fun _ _ d _=>hF d
 obtain ⟨o,q1,q2⟩:=cY hlow hLi
 have ho:rops[ix]? = some o:=by simpa using q1
 obtain ⟨g1,g2,g3,g4,g5⟩:=RX r1 q2 (hOF o (by have:=Array.mem_of_getElem? ho; simpa using this))
 replace g2:dst = o.dst:=g2
 unfold wpOp
 rw [ho]
 simp only
 rw [if_pos (g4 rfl)]
 refine .inl ?_
 obtain ⟨vs,a1s,a2,hexec⟩:=hop o a1 w1 h1 hd1 g1.symm r1
 unfold Oper.wp
 rw [hexec]
 simp only [Oper.upon]
 -- inside
 have hs2' : s1.blk id = none ∧ s2 = ⟨uJ 0 ws,(id,some (.outer (slots.map s1.get))) :: s1.bl⟩:=by
  unfold HD at hs2
  split at hs2
  ·rename_i q
   cases hs2
   exact ⟨by simpa using q,rfl⟩
  ·cases hs2
 obtain ⟨hnone,rfl⟩:=hs2'
 have hget:∀ i,i < vs.size→(vs ++ Array.replicate (fn.ntmps - vs.size) undef).getD i undef = vs.getD i undef:=fun i hi=>by
  simp only [Array.getD_eq_getD_getElem?]
  rw [Array.getElem?_append_left hi]
 have hbl:∀ i,(⟨uJ 0 ws,(id,some (.outer (slots.map s1.get))) :: s1.bl⟩ : St).blk i = if i = id then some (.outer (slots.map s1.get)) else s1.blk i:=fun i=>rfl
 have hk:Kp hd1 hd1 s1.blk (⟨uJ 0 ws,(id,some (.outer (slots.map s1.get))) :: s1.bl⟩ : St).blk:=by
  intro i b hb
  have:i ≠ id:=fun e=>by rw [e,hnone] at hb; cases hb
  exact ⟨b,by rw [hbl,if_neg this]; exact hb,uB.refl _ _ _⟩
 let w0' : fD:={ w0 with F:=fun _=>none,O:=fun i j=>if i = id then a1.tmps.getD (slots.getD j 0) undef else w0.O i j }
 have r2:Rl fn.ntmps w0' h0 (⟨uJ 0 ws,(id,some (.outer (slots.map s1.get))) :: s1.bl⟩ : St).get (⟨uJ 0 ws,(id,some (.outer (slots.map s1.get))) :: s1.bl⟩ : St).blk { tmps:=vs ++ Array.replicate (fn.ntmps - vs.size) undef,defers:=[] } w1 h1 hd1:={
  tmps:=by simp only [Array.size_append,Array.size_replicate]; omega
  defers:=rfl
  fixed:=fun i v hF=>by cases hF
  below:=⟨r1.below.os,r1.below.tape,r1.below.output,r1.below.size,r1.below.block⟩
  hle:=r1.hle
  h0le:=r1.h0le
  hbase:=r1.hbase
  frame:=fun t=>by
   have e1:(⟨uJ 0 ws,(id,some (.outer (slots.map s1.get))) :: s1.bl⟩ : St).get t = ws.getD t .any:=by
    have:=OK ws 0 t
    simpa [St.get] using this
   rw [e1]
   cases hy:ws[t]? with
   | none =>
    have:ws.getD t .any = .any:=by simp [List.getD_eq_getElem?_getD,hy]
    rw [this]
    trivial
   | some y =>
    have:ws.getD t .any = y:=by simp [List.getD_eq_getElem?_getD,hy]
    rw [this]
    have hlt:t < vs.size:=by rw [a1s]; exact (List.getElem?_eq_some_iff.1 hy).1
    show R3 _ _ _ (Array.getD (vs ++ Array.replicate (fn.ntmps - vs.size) undef) t undef) _
    rw [hget t hlt]
    exact (a2 t y hy).keep (Hp.le.refl _) hk
  blk:=fun i b hb=>by
   rw [hbl] at hb
   split at hb
   ·rename_i e
    subst e
    cases hb
    intro j x hx
    rw [List.getElem?_map,Option.map_eq_some_iff] at hx
    obtain ⟨t,ht,rfl⟩:=hx
    have:w0'.O i j = a1.tmps.getD t undef:=by
     show (if i = i then a1.tmps.getD (slots.getD j 0) undef else w0.O i j) = _
     rw [if_pos rfl,List.getD_eq_getElem?_getD,ht]
     rfl
    rw [this]
    exact (r1.frame t).keep (Hp.le.refl _) hk
   ·rename_i e
    exact (BR.base (b0:=w0') (b1:=w0) (fun g q=>q) (.inr (by funext j; exact if_neg e)) (r1.blk i b hb)).keep (Hp.le.refl _) hk rfl fun _ _ _=>⟨rfl,fun q=>q⟩
  sep:=fun i j bi bj g hi hj li lj gi gj=>by
   rw [hbl] at hi hj
   split at hi
   ·cases hi; cases li
   ·split at hj
    ·cases hj; cases lj
    ·exact r1.sep i j bi bj g hi hj li lj gi gj }
 have hcalls:Calls P f vs w1 fun en w'=>∃ cv,en = .returned cv ∧ ∃ h' hd',Rl nt w0 h0 s'.get s'.blk (a1.put o.dst cv) w' h' hd':=by
  refine calls_of_wp hfn l6 ?_
  refine hb C hC n w0' h0 _ s3 ex' _ w1 h1 hd1 _ (fun _=>rfl) hev r2 fun a' w' h' hd' r'=>?_
  have back:∀ (cv:Value) (v:V) (cs:List V),s3.blk id = some (.outer cs)→R3 h' hd' s3.blk cv v→s' = ⟨I4 dst v ++ slots.zip cs,(id,none) :: s3.bl⟩→Rl nt w0 h0 s'.get s'.blk (a1.put o.dst cv) w' h' hd':=by
   rintro cv v cs ho hv rfl
   have hb4:∀ i,(⟨I4 dst v ++ slots.zip cs,(id,none) :: s3.bl⟩ : St).blk i = if i = id then none else s3.blk i:=fun i=>rfl
   have hne:∀ i,i ≠ id→(⟨I4 dst v ++ slots.zip cs,(id,none) :: s3.bl⟩ : St).blk i = s3.blk i:=fun i e=>by rw [hb4,if_neg e]
   have hO:=r'.blk id _ ho
   have hzip:∀ t,R3 h' hd' s3.blk (a1.tmps.getD t undef) (lk (slots.zip cs) .any t):=by
    intro t
    rcases AO (slots.zip cs) .any t with e | ⟨p,hp,e1,e2⟩
    ·rw [e]; trivial
    ·obtain ⟨j,hj⟩:=List.mem_iff_getElem?.1 hp
     rw [List.getElem?_zip_eq_some] at hj
     have:=hO j p.2 hj.2
     have e3:w0'.O id j = a1.tmps.getD t undef:=by
      show (if id = id then a1.tmps.getD (slots.getD j 0) undef else w0.O id j) = _
      rw [if_pos rfl,List.getD_eq_getElem?_getD,hj.1,← e1]
      rfl
     rw [← e2,← e3]
     exact this
   exact {
    tmps:=by cases o.dst <;> simp [Act.put,r1.tmps]
    defers:=by cases o.dst <;> simp [Act.put,r1.defers]
    fixed:=fun t u hq=>by rw [hF t] at hq; cases hq
    below:=⟨r'.below.os,r'.below.tape,r'.below.output,r'.below.size,r'.below.block⟩
    hle:=r'.hle
    h0le:=r'.h0le
    hbase:=r'.hbase
    frame:=fun t=>by
     rw [LE a1 o.dst cv t nt r1.tmps fun d e=>(g3 d e).1]
     refine R3.drop ho hne ?_
     rw [← g2]
     cases dst with
     | none=>rw [if_neg (by intro q; cases q)]; exact hzip t
     | some d =>
      show R3 h' hd' s3.blk _ (lk ((d,v) :: slots.zip cs) .any t)
      simp only [lk]
      by_cases e:t = d
      ·subst e
       rw [if_pos rfl,if_pos rfl]; exact hv
      ·rw [if_neg e,if_neg fun q=>e (Option.some.inj q).symm]; exact hzip t
    blk:=fun i b hb=>by
     rw [hb4] at hb
     split at hb
     ·cases hb
     ·rename_i e
      exact BR.drop (b0:=w0) (b1:=w0') (fun g q=>q) (by funext j; exact (if_neg e).symm) ho hne (r'.blk i b hb)
    sep:=fun i j bi bj g hi hj li lj gi gj=>by
     rw [hb4] at hi hj
     split at hi
     ·cases hi
     ·split at hj
      ·cases hj
      ·exact r'.sep i j bi bj g hi hj li lj gi gj }
  have key:a'.defers = [] ∧ ∃ v,(results fn a'.tmps).run P w' = .ok v w' ∧ ∃ cv,(Ending.returned v) = .returned cv ∧ ∃ h' hd',Rl nt w0 h0 s'.get s'.blk (a1.put o.dst cv) w' h' hd':=by
   refine ⟨r'.defers,?_⟩
   unfold pE at hout
   split at hout
   ·rename_i cs v ho hres
    obtain ⟨cvs,k1,k2,k3⟩:=rM r' fn.results.toList res [v] l5 hres
    match cvs,k2 with
    | [cv],_ =>
     have hv:R3 h' hd' s3.blk cv v:=by simpa using k3 0 v rfl
     have hrun:(results fn a'.tmps).run P w' = .ok cv w':=by
      unfold results
      rw [← Array.toArray_toList (xs:=fn.results),List.mapM_toArray]
      simp only [Sem.run_bind,Sem.run_map]
      erw [k1]
      simp
     exact ⟨cv,hrun,cv,rfl,h',hd',back cv v cs ho hv (Option.some.inj hout).symm⟩
   ·rename_i cs vs hne ho hres
    split at hout
    ·rename_i hall
     obtain ⟨cvs,k1,k2,k3⟩:=rM r' fn.results.toList res vs l5 hres
     have hne1:cvs.length ≠ 1:=by
      intro h1
      rw [k2] at h1
      match vs,h1 with
      | [v],_=>exact hne v rfl
     have hrun:(results fn a'.tmps).run P w' = .ok (.tuple cvs.toArray) w':=by
      unfold results
      rw [← Array.toArray_toList (xs:=fn.results),List.mapM_toArray]
      simp only [Sem.run_bind,Sem.run_map]
      erw [k1]
      simp [hne1]
     have hR:R3 h' hd' s3.blk (.tuple cvs.toArray) (.tup vs):=by
      refine ⟨cvs.toArray,rfl,by simpa using k2,fun j z hz=>?_⟩
      have h3:=k3 j z hz
      have e3:cvs.toArray.getD j undef = cvs.getD j undef:=by simp
      rw [e3]
      have hz':=List.all_eq_true.1 hall z (List.mem_of_getElem? hz)
      cases z <;> first | exact h3 | cases hz'
     exact ⟨_,hrun,_,rfl,h',hd',back _ _ cs ho hR (Option.some.inj hout).symm⟩
    ·cases hout
   ·cases hout
  rcases hex with rfl | rfl
  ·exact key
  ·exact key
 refine hcalls.mono ?_
 rintro en w' ⟨cv,rfl,h',hd',r'⟩
 exact hQ _ _ h' hd' r'
theorem aFE {C:Nat→List D→Option D} (hC:qN P C) {n nt:Nat} {rops:Array Oper} {ops:List bK} {dst:Option Nat} {f:Nat} {lop:i7} {ws:List V} {body:aT} {res:List mS} {id:Nat} {slots:List Nat} {fn:Func} {c' : Code} {ext:List bK}
  (hlow:bB (lG P nt rops) rops.toList = some (ops.map bK.bare ++ ⟨dst,lop,none,dst.getD 0⟩ :: ext)) (hfn:P.funcs[f]? = some fn) (l6:fn.body = some c') (l3:ws.length ≤ fn.ntmps) (l5:bB (I1 P) fn.results.toList = some res)
  (hb:aF P fn.ntmps c' body) {w0:fD} {h0:Hp} {s s1 s2 s3 s' : St} {ex' : Ex} {a:Act} {w:World} {h:Hp} {hd:Nat→Value} {Q:Exit→Act→World→Prop} {rest:List Nat}
  (hF:∀ t,w0.F t = none) (r:Rl nt w0 h0 s.get s.blk a w h hd)
  (hs1:kS C ops s = some s1) (hs2:HD ws id slots s1 = some s2) (hev:bZ C n body s2 = some (ex',s3)) (hout:pE dst res id slots s3 = some s') (hex:ex' = .normal ∨ ex' = .ret)
  (hop:∀ (o:Oper) (a1:Act) (w1:World) (h1:Hp) (hd1:Nat→Value),tL P o = lop→Rl nt w0 h0 s1.get s1.blk a1 w1 h1 hd1→∃ vs:Array Value,vs.size = ws.length ∧ (∀ (j:Nat) (y:V),ws[j]? = some y→R3 h1 hd1 s1.blk (vs.getD j undef) y) ∧ (execOp a1.eval o).run P w1 = .ok (.enter f vs) w1)
  (hQ:∀ a' w' h' hd',Rl nt w0 h0 s'.get s'.blk a' w' h' hd'→wpOps P rops Q rest a' w'):wpOps P rops Q (List.range ops.length ++ ops.length :: rest) a w:=by
 have hOF:JZ w0 rops:=fun _ _ d _=>hF d
 obtain ⟨ps,hps⟩:=FK hs1
 have hst:=nN ops (fun i=>ps.getD i ([],[])) (k:=0) (fun i=>by simp) (fun i _=>by simp) hps
 have e0:(List.range ops.length).map (0 + ·) = List.range ops.length:=by simp
 rw [e0] at hst
 refine GH hC hOF hlow _ (s':=s1.fn) ?_ _ s.fn a w h hd r hst
 intro a1 w1 h1 hd1 r1
 replace r1:Rl nt w0 h0 s1.get s1.blk a1 w1 h1 hd1:=r1
 rw [wpOps_cons]
 exact aE0 hC hlow (by simp) hfn l6 l3 l5 hb hF r1 hs2 hev hout hex hop hQ
theorem R4 {C:Nat→List D→Option D} (hC:qN P C) {n nt:Nat} {rops:Array Oper} {ops:List bK} {dst:Option Nat} {f:Nat} {args:List dH} {body:aT} {res:List mS} {id:Nat} {slots:List Nat} {fn:Func} {c' : Code} {ext:List bK}
  (hlow:bB (lG P nt rops) rops.toList = some (ops.map bK.bare ++ ⟨dst,.call f args,none,dst.getD 0⟩ :: ext)) (hfn:P.funcs[f]? = some fn) (l6:fn.body = some c') (l3:args.length ≤ fn.ntmps) (l5:bB (I1 P) fn.results.toList = some res)
  (hb:aF P fn.ntmps c' body) {w0:fD} {h0:Hp} {s s' : St} {ex:Ex} {a:Act} {w:World} {h:Hp} {hd:Nat→Value} {Q:Exit→Act→World→Prop} {rest:List Nat}
  (hF:∀ t,w0.F t = none) (he:bZ C n (.inl ops args dst f body res id slots) s = some (ex,s')) (r:Rl nt w0 h0 s.get s.blk a w h hd)
  (hQ:ex = .normal→∀ a' w' h' hd',Rl nt w0 h0 s'.get s'.blk a' w' h' hd'→wpOps P rops Q rest a' w'):wpOps P rops Q (List.range ops.length ++ ops.length :: rest) a w:=by
 simp only [bZ] at he
 split at he
 ·cases he
 rename_i s1 hs1
 split at he
 ·cases he
 rename_i s2 hs2
 have hfin:∃ ex' s3,bZ C n body s2 = some (ex',s3) ∧ pE dst res id slots s3 = some s' ∧ ex = .normal ∧ (ex' = .normal ∨ ex' = .ret):=by
  split at he
  ·rename_i s3 h3
   obtain ⟨s4,q1,q2⟩:=Option.map_eq_some_iff.1 he
   cases q2
   exact ⟨_,s3,h3,q1,rfl,.inl rfl⟩
  ·rename_i s3 h3
   obtain ⟨s4,q1,q2⟩:=Option.map_eq_some_iff.1 he
   cases q2
   exact ⟨_,s3,h3,q1,rfl,.inr rfl⟩
  ·cases he
 obtain ⟨ex',s3,hev,hout,rfl,hex⟩:=hfin
 have hs2' : HD (args.map (cX s1.get)) id slots s1 = some s2:=hs2
 refine aFE hC hlow hfn l6 (by simpa using l3) l5 hb hF r hs1 hs2' hev hout hex ?_ (hQ rfl)
 intro o a1 w1 h1 hd1 g1 r1
 obtain ⟨c,fn',hop,hcal,hfn',hl,c1,c2⟩:=BH g1
 rw [hfn] at hfn'
 cases hfn'
 obtain ⟨m1,m2⟩:=cA hl
 refine ⟨c.args.map a1.eval,by simpa using m1,fun j y hy=>?_,?_⟩
 ·rw [List.getElem?_map,Option.map_eq_some_iff] at hy
  obtain ⟨z,hz,rfl⟩:=hy
  obtain ⟨x,x1,x2⟩:=cY hl hz
  have x1' : c.args[j]? = some x:=by simpa using x1
  have:(c.args.map a1.eval).getD j undef = a1.eval x:=by simp [x1']
  rw [this]
  exact bW r1.frame x2
 ·obtain ⟨bd,hbd⟩:=Option.isSome_iff_exists.1 c2
  have c1' : (fn.name == "runtime.NumGoroutine") = false:=by simpa using c1
  simp [execOp,hop,resolve,hcal,Act.eval,Deferred.ofValue,invoke,callFunc,hfn,c1,hbd]
theorem G3 {nt rid:Nat} {rops:Array Oper} {ops:List bK} {dst:Option Nat} {f:Nat} {args:List dH} {body:aT} {res:List mS} {id:Nat} {slots:List Nat} {fn:Func} {c' : Code}
  (hlow:bB (lG P nt rops) rops.toList = some (ops.map bK.bare ++ [⟨dst,.call f args,none,dst.getD 0⟩])) (hfn:P.funcs[f]? = some fn) (l6:fn.body = some c') (l3:args.length ≤ fn.ntmps) (l5:bB (I1 P) fn.results.toList = some res)
  (hb:aF P fn.ntmps c' body):aF P nt (.region rid rops false) (.inl ops args dst f body res id slots):=by
 intro C hC n w0 h0 s s' ex a w h hd Q hF he r hQ
 have hlen:rops.size = ops.length + 1:=by simpa using (cA hlow).1
 refine wp_region ?_
 rw [hlen,List.range_succ]
 refine R4 hC hlow hfn l6 l3 l5 hb hF he r ?_
 rintro rfl a' w' h' hd' r'
 exact hQ _ _ h' hd' r'
theorem uF {nt rid:Nat} {rops:Array Oper} {ops ops2:List bK} {dst:Option Nat} {f:Nat} {args:List dH} {body:aT} {res:List mS} {id:Nat} {slots:List Nat} {fn:Func} {c' : Code}
  (hlow:bB (lG P nt rops) rops.toList = some (ops.map bK.bare ++ ⟨dst,.call f args,none,dst.getD 0⟩ :: ops2.map bK.bare)) (hfn:P.funcs[f]? = some fn) (l6:fn.body = some c') (l3:args.length ≤ fn.ntmps) (l5:bB (I1 P) fn.results.toList = some res)
  (hb:aF P fn.ntmps c' body):aF P nt (.region rid rops false) (.seq (.inl ops args dst f body res id slots) (.region ops2 none)):=by
 intro C hC n w0 h0 s s' ex a w h hd Q hF he r hQ
 have hlen:rops.size = ops.length + 1 + ops2.length:=by
  have:=(cA hlow).1
  simp only [List.length_append,List.length_map,List.length_cons] at this
  have h2:rops.toList.length = rops.size:=rfl
  omega
 refine wp_region ?_
 have hL:List.range rops.size = List.range ops.length ++ ops.length :: (List.range ops2.length).map (ops.length + 1 + ·):=by
  rw [hlen,List.range_add,List.range_succ,List.append_assoc]
  rfl
 rw [hL]
 rw [bZ] at he
 have hinl:∀ e1 s1,bZ C n (.inl ops args dst f body res id slots) s = some (e1,s1)→e1 = .normal:=fun e1 s1 q=>by
  simp only [bZ] at q
  split at q
  ·cases q
  split at q
  ·cases q
  split at q
  ·obtain ⟨s4,q1,q2⟩:=Option.map_eq_some_iff.1 q; cases q2; rfl
  ·obtain ⟨s4,q1,q2⟩:=Option.map_eq_some_iff.1 q; cases q2; rfl
  ·cases q
 cases hi:bZ C n (.inl ops args dst f body res id slots) s with
 | none=>rw [hi] at he; cases he
 | some p =>
  obtain ⟨e1,s1⟩:=p
  obtain rfl:=hinl e1 s1 hi
  rw [hi] at he
  simp only [bZ] at he
  split at he
  ·rename_i s2 hs2
   cases he
   refine R4 hC hlow hfn l6 l3 l5 hb hF hi r ?_
   intro _ a' w' h' hd' r'
   obtain ⟨ps,hps⟩:=FK (show kS C ops2 s1 = some s' from hs2)
   have hlow' : bB (lG P nt rops) rops.toList = some ((ops ++ ⟨dst,.call f args,none,dst.getD 0⟩ :: ops2).map bK.bare ++ []):=by
    rw [hlow,List.append_nil,List.map_append,List.map_cons]
    rfl
   have hst:=nN (ops ++ ⟨dst,.call f args,none,dst.getD 0⟩ :: ops2) (fun i=>ps.getD (i - (ops.length + 1)) ([],[])) (k:=ops.length + 1) (fun i=>by
    rw [List.getElem?_append_right (by omega),show ops.length + 1 + i - ops.length = i + 1 by omega,List.getElem?_cons_succ]) (fun i _=>by rw [Nat.add_sub_cancel_left]) hps
   have hfin:=GH hC (fun _ _ d _=>hF d:JZ w0 rops) hlow' _ (s':=s'.fn) (rest:=[]) (Q:=Q) (fun a2 w2 h2 hd2 r2=>(hQ a2 w2 h2 hd2 r2:wpOps P rops Q [] a2 w2)) _ s1.fn a' w' h' hd' r' hst
   rw [List.append_nil] at hfin
   exact hfin
  ·cases he
theorem X9 {C:Nat→List D→Option D} (hC:qN P C) (hm:P.follows .mixedOrders = true) {n f t:Nat} {fn:Func} {sf:gC} {c:Code} {ds:List D} {x:D} {ex:Ex} {s:St} (hfn:P.funcs[f]? = some fn) (l2:fn.name ≠ "runtime.NumGoroutine") (l3:fn.ntmps = sf.nt) (l4:sf.np ≤ sf.nt)
  (l5:bB (I1 P) fn.results.toList = some sf.results) (l6:fn.body = some c) (l7:s7 P sf.nt c = some sf.body.bare) (hnp:ds.length = sf.np) (hnd:wW t sf.body = true)
  (hev:bZ C n sf.body (wN t ds) = some (ex,s)) (hfs:uG sf s t = some x) (hex:ex = .normal ∨ ex = .ret):E0 P f ds t x:=by
 refine ⟨⟨fn,hfn,l2,by rw [l6]; rfl⟩,?_⟩
 intro e size rows rows' y hdt hx w h vs hle hvs hrd hlent
 refine calls_of_wp hfn l6 ?_
 generalize hvt:vs.getD t undef = vt at hlent ⊢
 have hvsz:vs.size = sf.np:=by omega
 have htd:t < ds.length:=(List.getElem?_eq_some_iff.1 hdt).1
 have htv:t < vs.size:=by omega
 have hini:wN t ds = ⟨(t,.own 900000 0) :: nT 0 ds,[(900000,some (.rows 0 e size rows))]⟩:=by
  unfold wN
  rw [hdt]
  rfl
 obtain ⟨e1,e2,⟨xs,e3,e4⟩,e5⟩:=hlent
 have hget:∀ i,i < vs.size→(vs ++ Array.replicate (fn.ntmps - vs.size) undef).getD i undef = vs.getD i undef:=fun i hi=>by
  simp only [Array.getD_eq_getD_getElem?]
  rw [Array.getElem?_append_left hi]
 have hbl:∀ id b,(wN t ds).blk id = some b→id = 900000 ∧ b = .rows 0 e size rows:=fun id b hb=>by
  rw [hini] at hb
  simp only [St.blk,lk] at hb
  split at hb
  ·rename_i q; cases hb; exact ⟨q,rfl⟩
  ·cases hb
 have hbl0:(wN t ds).blk 900000 = some (.rows 0 e size rows):=by rw [hini]; simp [St.blk,lk]
 have r0:Rl sf.nt (fD.lent w t (vt)) h (wN t ds).get (wN t ds).blk { tmps:=vs ++ Array.replicate (fn.ntmps - vs.size) undef,defers:=[] } w h (fun _=>vt):={
  tmps:=by simp; omega
  defers:=rfl
  fixed:=fun i v hF=>by
   simp only [fD.lent] at hF
   split at hF
   ·rename_i q; cases hF; subst q; exact (hget _ htv).trans hvt
   ·cases hF
  below:=wX.refl _ _
  hle:=hle
  h0le:=Hp.le.refl _
  hbase:=fun _ _=>rfl
  frame:=fun i=>by
   have q1:(wN t ds).get i = if i = t then .own 900000 0 else (match ds[i]? with | some d=>aDo d | none=>.any):=by
    rw [hini]
    simp only [St.get,lk]
    split
    ·rfl
    ·have:=EK ds 0 i
     simpa using this
   rw [q1]
   split
   ·rename_i q
    subst q
    rw [hget _ htv,hvt]
    exact ⟨_,0,hbl0,rfl,Nat.le_refl _,e3.one,fun _=>rfl⟩
   ·rename_i hne
    cases hd:ds[i]? with
    | none=>trivial
    | some d =>
     have hlt:i < vs.size:=by rw [hvs]; exact (List.getElem?_eq_some_iff.1 hd).1
     simp only [hget i hlt]
     exact X7 (hrd i d hne hd)
  blk:=fun id b hb=>by
   obtain ⟨_,rfl⟩:=hbl id b hb
   exact ⟨e1,e2,⟨xs,e3,e4⟩,fun g hg=>⟨e5 g hg,.inr hg⟩⟩
  sep:=fun i j bi bj g hi hj _ _ _ _=>by rw [(hbl i bi hi).1,(hbl j bj hj).1] }
 refine XR hC hm n sf.body c _ s ex _ w h _ _ (aD3 (fun d hd=>by simp [fD.lent,hd]) sf.body c l7 hnd) l7 hev r0 fun a' w' h' hd' r'=>?_
 have key:a'.defers = [] ∧ ∃ v,(results fn a'.tmps).run P w' = .ok v w' ∧ ∃ v' h'',(Ending.returned v) = .returned v' ∧ bL h'' v' y ∧ H5 w' h'' (vt) e size rows' ∧ h.le h'' ∧ h''.le (hw w') ∧ wX (fD.lent w t (vt)) w w':=by
  refine ⟨r'.defers,?_⟩
  unfold uG at hfs
  split at hfs
  ·rename_i id ver hst
   split at hfs
   ·rename_i vv e' size' rows'' hb
    split at hfs
    ·rename_i hv
     subst hv
     have hslot:hd' id = vt:=by
      have h3:=r'.frame t
      rw [hst] at h3
      obtain ⟨b,cc,g1,g2,g3,g4,g5⟩ : ∃ b c',s.blk id = some b ∧ b.ver? = some c' ∧ ver ≤ c' ∧ _ ∧ (ver = c'→_ = hd' id):=h3
      rw [hb] at g1
      cases g1
      simp only [aK.ver?,Option.some.injEq] at g2
      rw [← g5 g2]
      exact r'.fixed t _ (by simp [fD.lent])
     have hLR:H5 w' h' (vt) e' size' rows'':=by
      obtain ⟨k1,k2,k3,k4⟩:=r'.blk id _ hb
      rw [hslot] at k3 k4
      exact ⟨k1,k2,k3,fun g hg=>(k4 g hg).1⟩
     split at hfs
     ·cases hfs
     ·rename_i u hres
      split at hfs
      ·rename_i y' hy
       split at hfs
       ·rename_i hfl
        rw [hx] at hfs
        simp only [Option.some.injEq,D.own.injEq,List.cons.injEq,Prod.mk.injEq,and_true] at hfs
        obtain ⟨rfl,⟨rfl,rfl⟩,rfl⟩:=hfs
        obtain ⟨cvs,g1,g2,g3⟩:=rM r' fn.results.toList sf.results [u] l5 hres
        match cvs,g2 with
        | [cv],_ =>
         have hv:R3 h' hd' s.blk cv u:=by simpa using g3 0 u rfl
         have hrun:(results fn a'.tmps).run P w' = .ok cv w':=by
          unfold results
          rw [← Array.toArray_toList (xs:=fn.results),List.mapM_toArray]
          simp only [Sem.run_bind,Sem.run_map]
          erw [g1]
          simp
         have hrd:bL (BT w' h' hd' (sB s.blk u)) cv y':=n7 r' _ (by cases u <;> first | exact hv | cases hy) hy (fun p hp=>hp)
         exact ⟨cv,hrun,cv,h',rfl,wU hrd hfl h',hLR,r'.h0le,r'.hle,r'.below⟩
       ·cases hfs
      ·cases hfs
     ·rename_i us hne hres
      split at hfs
      ·rename_i y' hy
       split at hfs
       ·rename_i hfl
        rw [hx] at hfs
        simp only [Option.some.injEq,D.own.injEq,List.cons.injEq,Prod.mk.injEq,and_true] at hfs
        obtain ⟨rfl,⟨rfl,rfl⟩,rfl⟩:=hfs
        obtain ⟨cvs,g1,g2,g3⟩:=rM r' fn.results.toList sf.results us l5 hres
        have hne1:cvs.length ≠ 1:=by
         intro h1
         rw [g2] at h1
         match us,h1 with
         | [v],_=>exact hne v rfl
        have hrun:(results fn a'.tmps).run P w' = .ok (.tuple cvs.toArray) w':=by
         unfold results
         rw [← Array.toArray_toList (xs:=fn.results),List.mapM_toArray]
         simp only [Sem.run_bind,Sem.run_map]
         erw [g1]
         simp [hne1]
        have hR:R3 h' hd' s.blk (.tuple cvs.toArray) (.tup us):=by
         simp only [toD] at hy
         cases hm2:bB (i9 s.blk) us with
         | none=>simp [hm2] at hy
         | some ys =>
          refine ⟨cvs.toArray,rfl,by simpa using g2,fun j z hz=>?_⟩
          have h3:=g3 j z hz
          have e3:cvs.toArray.getD j undef = cvs.getD j undef:=by simp
          rw [e3]
          obtain ⟨y,y1,y2⟩:=(cA hm2).2 j z hz
          cases z <;> first | exact h3 | cases y2
        have hrd:=aET r' (us.flatMap (sB s.blk)) hR hy (fun p hp=>hp)
        exact ⟨_,hrun,_,h',rfl,wU hrd hfl h',hLR,r'.h0le,r'.hle,r'.below⟩
       ·cases hfs
      ·cases hfs
    ·cases hfs
   ·cases hfs
  ·cases hfs
 rcases hex with rfl | rfl
 ·exact key
 ·exact key
def VV (P:Program) (f:Nat):Def→Prop
 | .code _=>True
 | .told o=>∀ ds x,o ds = some x→CJ P f ds x
 | .toldL o=>∀ ds x t,o ds = some x→hZ 0 ds = some t→E0 P f ds t x
theorem JH (T:u5) (hT:∀ f sf,T f = some (.code sf)→∃ fn,P.funcs[f]? = some fn ∧ EG P fn sf) (hO:∀ f d,T f = some d→VV P f d) (hm:P.follows .mixedOrders = true):∀ (n f:Nat) (ds:List D) (x:D),iG T n f ds = some x→(hZ 0 ds = none→CJ P f ds x) ∧ ∀ t,hZ 0 ds = some t→E0 P f ds t x
 | 0,f,ds,x,e=>by cases e
 | n + 1,f,ds,x,e=>by
  simp only [iG] at e
  split at e
  ·cases e
  ·rename_i o ho
   split at e
   ·rename_i hl
    exact ⟨fun _=>hO f (.told o) ho ds x e,fun t ht=>(by rw [hl] at ht; cases ht)⟩
   ·cases e
  ·rename_i o ho
   split at e
   ·rename_i hl
    exact ⟨fun q=>(by rw [q] at hl; cases hl),fun t ht=>hO f (.toldL o) ho ds x t e ht⟩
   ·cases e
  ·rename_i sf hsf
   split at e
   ·rename_i hnp
    obtain ⟨fn,hfn,l1,l2,l3,l4,l5,c,l6,l7,l8⟩:=hT f sf hsf
    cases hla:hZ 0 ds with
    | some t =>
     rw [hla] at e
     simp only at e
     refine ⟨fun q=>(by cases q),fun t' ht=>?_⟩
     cases ht
     split at e
     ·rename_i hq
      split at e
      ·rename_i s hs; exact X9 (JH T hT hO hm n) hm hfn l2 l3 l4 l5 l6 (l8 hq.1) hnp hq.2 hs e (.inl rfl)
      ·rename_i s hs; exact X9 (JH T hT hO hm n) hm hfn l2 l3 l4 l5 l6 (l8 hq.1) hnp hq.2 hs e (.inr rfl)
      ·cases e
     ·cases e
    | none =>
    rw [hla] at e
    simp only at e
    refine ⟨fun _=>?_,fun t ht=>(by cases ht)⟩
    have hfin:∃ ex s,bZ (iG T n) n sf.body ⟨nT 0 ds,[]⟩ = some (ex,s) ∧ CR sf s = some x ∧ (ex = .normal ∨ ex = .ret):=by
     split at e
     ·rename_i s hs; exact ⟨_,s,hs,e,.inl rfl⟩
     ·rename_i s hs; exact ⟨_,s,hs,e,.inr rfl⟩
     ·cases e
    obtain ⟨ex,s,hev,hfs,hex⟩:=hfin
    refine ⟨⟨fn,hfn,l2,by rw [l6]; rfl⟩,?_⟩
    intro w h vs hle hvs hrd
    refine calls_of_wp hfn l6 ?_
    have hvsz:vs.size = sf.np:=by omega
    have r0:Rl sf.nt (fD.of w) h (⟨nT 0 ds,[]⟩ : St).get (⟨nT 0 ds,[]⟩ : St).blk { tmps:=vs ++ Array.replicate (fn.ntmps - vs.size) undef,defers:=[] } w h (fun _=>undef):={
     tmps:=by simp; omega
     defers:=rfl
     fixed:=fun i v hF=>by cases hF
     below:=wX.refl _ _
     hle:=hle
     h0le:=Hp.le.refl _
     hbase:=fun _ _=>rfl
     frame:=fun t=>by
      have e1:(⟨nT 0 ds,[]⟩ : St).get t = (match ds[t]? with | some d=>aDo d | none=>.any):=by
       have:=EK ds 0 t
       simpa [St.get] using this
      rw [e1]
      cases hd:ds[t]? with
      | none=>trivial
      | some d =>
       have hlt:t < vs.size:=by rw [hvs]; exact (List.getElem?_eq_some_iff.1 hd).1
       have e2:(vs ++ Array.replicate (fn.ntmps - vs.size) undef).getD t undef = vs.getD t undef:=by
        simp only [Array.getD_eq_getD_getElem?]
        rw [Array.getElem?_append_left hlt]
       simp only [e2]
       exact X7 (hrd t d hd)
     blk:=fun id b hb=>by simp [St.blk,lk] at hb
     sep:=fun i j bi bj g hi=>by simp [St.blk,lk] at hi }
    refine l7 hm _ (JH T hT hO hm n) n _ _ _ s ex _ w h _ _ (fun _=>rfl) hev r0 fun a' w' h' hd' r'=>?_
    have hbase:∀ b,b < w.heap.size→h' b = h b:=fun b hb=>r'.hbase b fun q=>by have:=fD.own_of q; omega
    have hnot:∀ b,b < w.heap.size→¬ (fD.of w).own b:=fun b hb q=>by have:=fD.own_of q; omega
    have hbelow:=r'.below.below
    have key:a'.defers = [] ∧ ∃ v,(results fn a'.tmps).run P w' = .ok v w' ∧ ∃ v' h'',(Ending.returned v) = .returned v' ∧ GR (fD.of w) w' h'' v' x ∧ h.le h'' ∧ h''.le (hw w') ∧ (∀ b,b < w.heap.size→h'' b = h b) ∧ Below w.heap.size w w':=by
     refine ⟨r'.defers,?_⟩
     unfold CR at hfs
     split at hfs
     ·cases hfs
     ·rename_i v hres
      obtain ⟨cvs,g1,g2,g3⟩:=rM r' fn.results.toList sf.results [v] l5 hres
      match cvs,g2 with
      | [cv],_ =>
       have hv:R3 h' hd' s.blk cv v:=by simpa using g3 0 v rfl
       have hrun:(results fn a'.tmps).run P w' = .ok cv w':=by
        unfold results
        rw [← Array.toArray_toList (xs:=fn.results),List.mapM_toArray]
        simp only [Sem.run_bind,Sem.run_map]
        erw [g1]
        simp
       split at hfs
       ·exact ⟨cv,hrun,cv,h',rfl,S6 r' hv hfs,r'.h0le,r'.hle,hbase,hbelow⟩
       have hrd:bL (BT w' h' hd' (sB s.blk v)) cv x:=n7 r' _ (by cases v <;> first | exact hv | cases hfs) hfs (fun p hp=>hp)
       exact ⟨cv,hrun,cv,BT w' h' hd' (sB s.blk v),rfl,hrd.toF,r'.h0le.trans (tY r' _),EQ r' _,fun b hb=>(LK r' _ (WN v) b (hnot b hb)).trans (hbase b hb),hbelow⟩
     ·rename_i vs' hne hres
      obtain ⟨cvs,g1,g2,g3⟩:=rM r' fn.results.toList sf.results vs' l5 hres
      have hne1:cvs.length ≠ 1:=by
       intro h1
       rw [g2] at h1
       match vs',h1 with
       | [v],_=>exact hne v rfl
      have hrun:(results fn a'.tmps).run P w' = .ok (.tuple cvs.toArray) w':=by
       unfold results
       rw [← Array.toArray_toList (xs:=fn.results),List.mapM_toArray]
       simp only [Sem.run_bind,Sem.run_map]
       erw [g1]
       simp [hne1]
      split at hfs
      ·rename_i hfr
       have hR:R3 h' hd' s.blk (.tuple cvs.toArray) (.tup vs'):=by
        refine ⟨cvs.toArray,rfl,by simpa using g2,fun j z hz=>?_⟩
        have h3:=g3 j z hz
        have e3:cvs.toArray.getD j undef = cvs.getD j undef:=by simp
        rw [e3]
        obtain ⟨y,hy⟩:=WL hfs hz
        cases z <;> first | exact h3 | cases hy
       exact ⟨_,hrun,_,h',rfl,S6 r' hR hfs,r'.h0le,r'.hle,hbase,hbelow⟩
      have hR:R3 h' hd' s.blk (.tuple cvs.toArray) (.tup vs'):=by
       simp only [toD] at hfs
       cases hm2:bB (i9 s.blk) vs' with
       | none=>simp [hm2] at hfs
       | some ys =>
        refine ⟨cvs.toArray,rfl,by simpa using g2,fun j z hz=>?_⟩
        have h3:=g3 j z hz
        have e3:cvs.toArray.getD j undef = cvs.getD j undef:=by simp
        rw [e3]
        obtain ⟨y,y1,y2⟩:=(cA hm2).2 j z hz
        cases z <;> first | exact h3 | cases y2
      refine ⟨_,hrun,_,BT w' h' hd' (vs'.flatMap (sB s.blk)),rfl,(aET r' _ hR hfs (fun p hp=>hp)).toF,r'.h0le.trans (tY r' _),EQ r' _,fun b hb=>(LK r' _ ?_ b (hnot b hb)).trans (hbase b hb),hbelow⟩
      exact rP.flatMap vs' fun z=>z
    rcases hex with rfl | rfl
    ·exact key
    ·exact key
   ·cases e
end
end Vm
end Go.Proofs.Ytiimibimkpimbaa
set_option linter.unusedVariables false
set_option linter.unusedSimpArgs false
namespace Go.Proofs.Ytiimibimkpimbaa
namespace Vm
open Go.RowKit
section
variable {P:Program} {nt:Nat} {w0:fD} {h0:Hp}
def aEY (ops:Array Oper) (listed:Array Bool):Prop:=∀ k,listed.getD k false = true→∀ j,((EZ ops.toList).getD k 0).testBit j = true→listed.getD j false = true
def aAA (ops:Array Oper) (listed:Array Bool) (M:List Nat):Prop:=∀ i,i ∈ M ↔ i < ops.size ∧ listed.getD i true = false
theorem AB {listed:Array Bool} {j:Nat} (hj:j < listed.size) (h:listed.getD j true = false):listed.getD j false = false:=by
 simp only [Array.getD_eq_getD_getElem?] at h ⊢
 simp [hj] at h ⊢
 exact h
theorem ZE {listed:Array Bool} {j:Nat} (hj:j < listed.size) (h:listed.getD j true ≠ false):listed.getD j false = true:=by
 simp only [Array.getD_eq_getD_getElem?] at h ⊢
 simp [hj] at h ⊢
 exact h
theorem H3 {ops:Array Oper} (hok:xK ops.toList = true) {m:Nat} {M:List Nat} {listed:Array Bool} (hp:(m :: M).Pairwise (· < ·)) (hs:listed.size = ops.size) (hM:aAA ops listed (m :: M)):m ∈ Region.ready .any ops listed:=by
 have hm:=(hM m).1 (by simp)
 obtain ⟨o,ho⟩ : ∃ o,ops[m]? = some o:=⟨ops[m]'hm.1,by simp [hm.1]⟩
 refine mem_ready.2 ⟨hm.2,o,ho,fun e he hb=>?_⟩
 have hlt:e.on < m:=by
  have h4:=List.all_eq_true.1 hok (o,m) (by
   rw [List.mem_iff_getElem?]; exact ⟨m,by simp [ho]⟩)
  have h3:=Array.all_eq_true_iff_forall_mem.1 h4 e he
  simpa [hb] using h3
 refine ZE (by omega) fun q=>?_
 have hmem:=(hM e.on).2 ⟨by omega,q⟩
 rcases List.mem_cons.1 hmem with q | q
 ·omega
 ·have:=(List.pairwise_cons.1 hp).1 _ q; omega
theorem OI {ops:Array Oper} (hok:xK ops.toList = true) {listed:Array Bool} (hdc:aEY ops listed) {i:Nat} (hi:i ∈ Region.ready .any ops listed):listed.getD i true = false ∧ (∃ o,ops[i]? = some o) ∧ ∀ j,((EZ ops.toList).getD i 0).testBit j = true→listed.getD j false = true:=by
 obtain ⟨hun,o,ho,hall⟩:=mem_ready.1 hi
 refine ⟨hun,⟨o,ho⟩,fun j hj=>?_⟩
 obtain ⟨e,he,hb,hje⟩:=QW ops.toList hok (i:=i) (o:=o) (by simpa using ho) j hj
 have h5:=hall e he hb
 rcases hje with rfl | hje
 ·exact h5
 ·exact hdc _ h5 j hje
theorem TH {ops:Array Oper} {listed:Array Bool} {A B:List Nat} {i:Nat} (hp:(A ++ i :: B).Pairwise (· < ·)) (hs:listed.size = ops.size) (hM:aAA ops listed (A ++ i :: B)):aAA ops (listed.setIfInBounds i true) (A ++ B):=by
 have hpw:=List.pairwise_append.1 hp
 intro k
 have hnd:k ∈ A ++ B ↔ k ∈ A ++ i :: B ∧ k ≠ i:=by
  have hA:i ∉ A:=fun q=>absurd (hpw.2.2 i q i (by simp)) (by omega)
  have hB:i ∉ B:=fun q=>absurd ((List.pairwise_cons.1 hpw.2.1).1 i q) (by omega)
  simp only [List.mem_append,List.mem_cons]
  constructor
  ·rintro (q | q)
   ·exact ⟨.inl q,fun e=>hA (e ▸ q)⟩
   ·exact ⟨.inr (.inr q),fun e=>hB (e ▸ q)⟩
  ·rintro ⟨q | q | q,hne⟩
   ·exact .inl q
   ·exact absurd q hne
   ·exact .inr q
 rw [hnd,hM k]
 constructor
 ·rintro ⟨⟨g1,g2⟩,g3⟩; exact ⟨g1,by rw [getD_set_ne true (Ne.symm g3)]; exact g2⟩
 ·rintro ⟨g1,g2⟩
  have g3:k ≠ i:=by
   rintro rfl
   have hkl:k < listed.size:=by omega
   simp [hkl] at g2
  exact ⟨⟨g1,by rw [getD_set_ne true (Ne.symm g3)] at g2; exact g2⟩,g3⟩
theorem QZ {ops:Array Oper} {listed:Array Bool} {i:Nat} (hdc:aEY ops listed) (hanc:∀ j,((EZ ops.toList).getD i 0).testBit j = true→listed.getD j false = true):aEY ops (listed.setIfInBounds i true):=by
 intro k hk j hj
 by_cases hki:k = i
 ·subst hki; exact getD_set_true (hanc j hj)
 ·rw [getD_set_ne false (Ne.symm hki)] at hk
  exact getD_set_true (hdc k hk j hj)
theorem aIs {A B:List Nat} {i:Nat} (hp:(A ++ i :: B).Pairwise (· < ·)):(A ++ B).Pairwise (· < ·):=by
 have hpw:=List.pairwise_append.1 hp
 exact List.pairwise_append.2 ⟨hpw.1,(List.pairwise_cons.1 hpw.2.1).2,fun x hx y hy=>hpw.2.2 x hx y (by simp [hy])⟩
theorem Y6 {C:Nat→List D→Option D} (hC:qN P C) {ops:Array Oper} {l:List bK} (hF:JZ w0 ops) (hlow:bB (lG P nt ops) ops.toList = some (l.map bK.bare)) (hok:xK ops.toList = true) (fp:Nat→Fp) (hind:∀ p ∈ FM ops.toList,Ind l fp p.1 p.2)
  {c:Nat} {B:List Nat} (hA:∀ j,j < c→((EZ ops.toList).getD c 0).testBit j = true) (hB:∀ k ∈ B,((EZ ops.toList).getD k 0).testBit c = true) {Q:Exit→Act→World→Prop} {s1:Fn}
  (hcall:∀ (listed:Array Bool) (a:Act) (w:World) (h:Hp) (hd:Nat→Value),listed.size = ops.size→aAA ops listed B→aEY ops listed→Rl nt w0 h0 s1.1 s1.2 a w h hd→wpOp P ops Q c (wpAny P .any ops Q B.length listed) a w) :
  ∀ (fuel:Nat) (A:List Nat) (listed:Array Bool) (s:Fn) (a:Act) (w:World) (h:Hp) (hd:Nat→Value),A.length = fuel→(A ++ c :: B).Pairwise (· < ·)→listed.size = ops.size→aAA ops listed (A ++ c :: B)→aEY ops listed →
   Rl nt w0 h0 s.1 s.2 a w h hd→pG C l fp A s s1→wpAny P .any ops Q (fuel + (B.length + 1)) listed a w:=by
 intro fuel
 induction fuel with
 | zero =>
  intro A listed s a w h hd hl hp hs hM hdc r hst
  have:A = []:=List.eq_nil_of_length_eq_zero hl
  subst this
  simp only [pG] at hst
  subst hst
  rw [Nat.zero_add]
  refine ⟨fun hnil=>?_,fun i hi=>?_⟩
  ·have:=H3 hok (m:=c) (M:=B) hp hs hM
   rw [hnil] at this; cases this
  ·obtain ⟨g1,⟨o,g2⟩,g3⟩:=OI hok hdc hi
   have hin:i < ops.size:=(Array.getElem?_eq_some_iff.1 g2).1
   have hiM:=(hM i).2 ⟨hin,g1⟩
   have hc:=(hM c).1 (by simp)
   rcases List.mem_cons.1 hiM with rfl | hiB
   ·exact hcall _ a w h hd (by simpa using hs) (TH (A:=[]) hp hs hM) (QZ hdc g3) r
   ·have:=g3 c (hB i hiB)
    rw [AB (by omega) hc.2] at this
    cases this
 | succ fuel ih =>
  intro A listed s a w h hd hl hp hs hM hdc r hst
  rw [show fuel + 1 + (B.length + 1) = (fuel + (B.length + 1)) + 1 by omega]
  have hc:=(hM c).1 (by simp)
  refine ⟨fun hnil=>?_,fun i hi=>?_⟩
  ·match A,hl with
   | m :: A',_ =>
    have:=H3 hok (m:=m) (M:=A' ++ c :: B) hp hs hM
    rw [hnil] at this; cases this
  ·obtain ⟨g1,⟨o,g2⟩,g3⟩:=OI hok hdc hi
   have hin:i < ops.size:=(Array.getElem?_eq_some_iff.1 g2).1
   have hiM:=(hM i).2 ⟨hin,g1⟩
   have hpw:=List.pairwise_append.1 hp
   have hiA:i ∈ A:=by
    rcases List.mem_append.1 hiM with q | q
    ·exact q
    rcases List.mem_cons.1 q with rfl | q
    ·exfalso
     match A,hl with
     | m :: A',_ =>
      have hm:=(hM m).1 (by simp)
      have:=g3 m (hA m (hpw.2.2 m (by simp) i (by simp)))
      rw [AB (by omega) hm.2] at this
      cases this
    ·exfalso
     have:=g3 c (hB i q)
     rw [AB (by omega) hc.2] at this
     cases this
   obtain ⟨A1,A2,rfl⟩:=List.append_of_mem hiA
   have hp' : (A1 ++ i :: (A2 ++ c :: B)).Pairwise (· < ·):=by simpa using hp
   have hM' : aAA ops listed (A1 ++ i :: (A2 ++ c :: B)):=by
    have e:A1 ++ i :: A2 ++ c :: B = A1 ++ i :: (A2 ++ c :: B):=by simp
    rw [← e]; exact hM
   have hpw':=List.pairwise_append.1 hp'
   have hbr:=pG.bring hst (fun j hj=>by
    have hji:j < i:=hpw'.2.2 j hj i (by simp)
    have hjun:listed.getD j true = false:=((hM' j).1 (by simp [hj])).2
    refine hind (j,i) ?_
    simp only [FM]
    refine List.mem_flatMap.2 ⟨i,by simpa using hin,List.mem_map.2 ⟨j,List.mem_filter.2 ⟨by simpa using hji,?_⟩,rfl⟩⟩
    rw [Bool.not_eq_true',← Bool.not_eq_true]
    intro hmem
    have:=g3 j hmem
    rw [AB (by omega) hjun] at this
    cases this)
   obtain ⟨so,s2,hso,hstep,hrest⟩:=hbr
   obtain ⟨o',q1,q2⟩:=cY hlow (show (l.map bK.bare)[i]? = some so.bare by simp [hso])
   have:o' = o:=by
    have:ops[i]? = some o':=by simpa using q1
    rw [g2] at this
    exact (Option.some.inj this).symm
   subst this
   refine JB hC r hF g2 q2 hstep fun a' w' h' hd' r'=>ih (A1 ++ A2) (listed.setIfInBounds i true) s2 a' w' h' hd' (by simp at hl ⊢; omega) ?_ (by simpa using hs) ?_ (QZ hdc g3) r' hrest
   ·have:=aIs hp'
    simpa using this
   ·have:=TH hp' hs hM'
    have e:A1 ++ A2 ++ c :: B = A1 ++ (A2 ++ c :: B):=by simp
    rw [e]; exact this
theorem pG.wide {C:Nat→List D→Option D} {l L:List bK} {fp fq:Nat→Fp}:∀ {M:List Nat} {s s' : Fn},(∀ i ∈ M,l[i]? = L[i]? ∧ fp i = fq i)→pG C l fp M s s'→pG C L fq M s s'
 | [],s,s',_,h=>h
 | i :: M,s,s',hi,⟨o,s1,g1,g2,g3⟩=>by
  obtain ⟨e1,e2⟩:=hi i (by simp)
  exact ⟨o,s1,e1 ▸ g1,e2 ▸ g2,pG.wide (fun k hk=>hi k (by simp [hk])) g3⟩
theorem BN {C:Nat→List D→Option D} {l:List bK} {pairs:List (Nat × Nat)} {s s' : St} (hr:fZ C l (some pairs) s = some s'):∃ ps,i6 C l s = some (s',ps) ∧ ∀ p ∈ pairs,∀ x y,l[p.1]? = some x→l[p.2]? = some y→ind x y (ps.getD p.1 ([],[])) (ps.getD p.2 ([],[])) = true:=by
 simp only [fZ] at hr
 split at hr
 ·rename_i s2 ps hps
  split at hr
  ·rename_i hap
   cases hr
   refine ⟨ps,hps,fun p hp x y hx hy=>?_⟩
   have:=List.all_eq_true.1 hap p hp
   obtain ⟨i,j⟩:=p
   simp only at hx hy this ⊢
   rw [hx,hy] at this
   have hpl:=C7 hps
   have hi:=(List.getElem?_eq_some_iff.1 hx).1
   have hj:=(List.getElem?_eq_some_iff.1 hy).1
   have hi' : i < ps.length:=by omega
   have hj' : j < ps.length:=by omega
   have e1:ps[i]? = some (ps.getD i ([],[])):=by simp [List.getD,hi']
   have e2:ps[j]? = some (ps.getD j ([],[])):=by simp [List.getD,hj']
   rw [e1,e2] at this
   exact this
  ·cases hr
 ·cases hr
theorem YS {nt rid:Nat} {rops:Array Oper} {ops ops2:List bK} {dst:Option Nat} {f:Nat} {args:List dH} {body:aT} {res:List mS} {id:Nat} {slots:List Nat} {fn:Func} {c' : Code} {ps1 ps2:List (Nat × Nat)} (hm:P.follows .mixedOrders = true)
  (hlow:bB (lG P nt rops) rops.toList = some (ops.map bK.bare ++ ⟨dst,.call f args,none,dst.getD 0⟩ :: ops2.map bK.bare)) (hok:xK rops.toList = true)
  (hloose:((FM rops.toList).all fun p=>(decide (p.1 < ops.length ∧ p.2 < ops.length) && ps1.contains p) || (decide (ops.length < p.1 ∧ ops.length < p.2) && ps2.contains (p.1 - (ops.length + 1),p.2 - (ops.length + 1)))) = true)
  (hA:((List.range ops.length).all fun j=>((EZ rops.toList).getD ops.length 0).testBit j) = true) (hB:((List.range ops2.length).all fun k=>((EZ rops.toList).getD (ops.length + 1 + k) 0).testBit ops.length) = true)
  (hfn:P.funcs[f]? = some fn) (l6:fn.body = some c') (l3:args.length ≤ fn.ntmps) (l5:bB (I1 P) fn.results.toList = some res)
  (hb:aF P fn.ntmps c' body):aF P nt (.region rid rops true) (.seq (.region ops (some ps1)) (.seq (.inl [] args dst f body res id slots) (.region ops2 (some ps2)))):=by
 intro C hC n w0 h0 s s' ex a w h hd Q hF he r hQ
 have hOF:JZ w0 rops:=fun _ _ d _=>hF d
 have hlen:rops.size = ops.length + (ops2.length + 1):=by
  have:=(cA hlow).1
  simp only [List.length_append,List.length_map,List.length_cons] at this
  have h2:rops.toList.length = rops.size:=rfl
  omega
 have hlow' : bB (lG P nt rops) rops.toList = some ((ops ++ ⟨dst,.call f args,none,dst.getD 0⟩ :: ops2).map bK.bare):=by
  rw [hlow,List.map_append,List.map_cons]
  rfl
 rw [bZ] at he
 cases hr1:fZ C ops (some ps1) s with
 | none=>simp only [bZ,hr1] at he; cases he
 | some s1 =>
 have e1:bZ C n (.region ops (some ps1)) s = some (.normal,s1):=by simp only [bZ,hr1]
 rw [e1] at he
 simp only at he
 rw [bZ] at he
 cases hi:bZ C n (.inl [] args dst f body res id slots) s1 with
 | none=>rw [hi] at he; cases he
 | some p =>
 obtain ⟨ei,s4⟩:=p
 have hi2:=hi
 simp only [bZ] at hi2
 split at hi2
 ·cases hi2
 rename_i s1' hs1'
 have:s1' = s1:=(Option.some.inj (show some s1 = some s1' from hs1')).symm
 subst this
 split at hi2
 ·cases hi2
 rename_i s2 hs2
 have hfin:∃ ex' s3,bZ C n body s2 = some (ex',s3) ∧ pE dst res id slots s3 = some s4 ∧ ei = .normal ∧ (ex' = .normal ∨ ex' = .ret):=by
  split at hi2
  ·rename_i s3 h3
   obtain ⟨s5,q1,q2⟩:=Option.map_eq_some_iff.1 hi2
   cases q2
   exact ⟨_,s3,h3,q1,rfl,.inl rfl⟩
  ·rename_i s3 h3
   obtain ⟨s5,q1,q2⟩:=Option.map_eq_some_iff.1 hi2
   cases q2
   exact ⟨_,s3,h3,q1,rfl,.inr rfl⟩
  ·cases hi2
 obtain ⟨ex',s3,hev,hout,rfl,hex⟩:=hfin
 rw [hi] at he
 simp only [bZ] at he
 cases hr2:fZ C ops2 (some ps2) s4 with
 | none=>rw [hr2] at he; cases he
 | some s5 =>
 rw [hr2] at he
 cases he
 obtain ⟨p1,hp1,hi1⟩:=BN hr1
 obtain ⟨p2,hp2,hi2'⟩:=BN hr2
 let fp:Nat→Fp:=fun i=>if i < ops.length then p1.getD i ([],[]) else p2.getD (i - (ops.length + 1)) ([],[])
 have hst1:pG C (ops ++ ⟨dst,.call f args,none,dst.getD 0⟩ :: ops2) fp (List.range ops.length) s.fn s1'.fn:=by
  have:=nN ops (fun i=>p1.getD i ([],[])) (k:=0) (fun i=>by simp) (fun i _=>by simp) hp1
  have e0:(List.range ops.length).map (0 + ·) = List.range ops.length:=by simp
  rw [e0] at this
  refine pG.wide (fun i hi=>?_) this
  have hi:=List.mem_range.1 hi
  exact ⟨by rw [List.getElem?_append_left hi],by simp only [fp]; rw [if_pos hi]⟩
 have hst2:pG C (ops ++ ⟨dst,.call f args,none,dst.getD 0⟩ :: ops2) fp ((List.range ops2.length).map (ops.length + 1 + ·)) s4.fn s'.fn :=
  nN (ops ++ ⟨dst,.call f args,none,dst.getD 0⟩ :: ops2) fp (k:=ops.length + 1) (fun i=>by
   rw [List.getElem?_append_right (by omega),show ops.length + 1 + i - ops.length = i + 1 by omega,List.getElem?_cons_succ]) (fun i _=>by
   simp only [fp]
   rw [if_neg (by omega),Nat.add_sub_cancel_left]) hp2
 have hind:∀ p ∈ FM rops.toList,Ind (ops ++ ⟨dst,.call f args,none,dst.getD 0⟩ :: ops2) fp p.1 p.2:=by
  intro p hp x y hx hy
  have:=List.all_eq_true.1 hloose p hp
  rw [Bool.or_eq_true,Bool.and_eq_true,Bool.and_eq_true,decide_eq_true_eq,decide_eq_true_eq] at this
  rcases this with ⟨⟨g1,g2⟩,g3⟩ | ⟨⟨g1,g2⟩,g3⟩
  ·rw [List.getElem?_append_left g1] at hx
   rw [List.getElem?_append_left g2] at hy
   have:=hi1 p (by simpa using g3) x y hx hy
   simp only [fp]
   rw [if_pos g1,if_pos g2]
   exact this
  ·rw [List.getElem?_append_right (by omega),show p.1 - ops.length = (p.1 - (ops.length + 1)) + 1 by omega,List.getElem?_cons_succ] at hx
   rw [List.getElem?_append_right (by omega),show p.2 - ops.length = (p.2 - (ops.length + 1)) + 1 by omega,List.getElem?_cons_succ] at hy
   have:=hi2' (p.1 - (ops.length + 1),p.2 - (ops.length + 1)) (by simpa using g3) x y hx hy
   simp only [fp]
   rw [if_neg (by omega),if_neg (by omega)]
   exact this
 have hpwB:((List.range ops2.length).map (ops.length + 1 + ·)).Pairwise (· < ·):=List.pairwise_map.2 (List.pairwise_lt_range.imp fun h=>by omega)
 have hBl:((List.range ops2.length).map (ops.length + 1 + ·)).length = ops2.length:=by simp
 refine wp_region_any hm ?_
 have key:=Y6 hC hOF hlow' hok fp hind (c:=ops.length) (B:=(List.range ops2.length).map (ops.length + 1 + ·)) (Q:=Q) (s1:=s1'.fn)
  (fun j hj=>List.all_eq_true.1 hA j (List.mem_range.2 hj)) (fun k hk=>by
   obtain ⟨q,hq,rfl⟩:=List.mem_map.1 hk
   exact List.all_eq_true.1 hB q hq)
  (fun listed a1 w1 h1 hd1 g1 g2 g3 r1=>by
   have hs2' : HD (args.map (cX s1'.get)) id slots s1' = some s2:=hs2
   refine aE0 (lop:=.call f args) hC hlow (by simp) hfn l6 (by simpa using l3) l5 hb hF r1 hs2' hev hout hex ?_ fun a' w' h' hd' r'=>?_
   ·intro o a1 w1 h1 hd1 g1 r1
    obtain ⟨c,fn',hop,hcal,hfn',hl,c1,c2⟩:=BH g1
    rw [hfn] at hfn'
    cases hfn'
    obtain ⟨m1,m2⟩:=cA hl
    refine ⟨c.args.map a1.eval,by simpa using m1,fun j y hy=>?_,?_⟩
    ·rw [List.getElem?_map,Option.map_eq_some_iff] at hy
     obtain ⟨z,hz,rfl⟩:=hy
     obtain ⟨x,x1,x2⟩:=cY hl hz
     have x1' : c.args[j]? = some x:=by simpa using x1
     have:(c.args.map a1.eval).getD j undef = a1.eval x:=by simp [x1']
     rw [this]
     exact bW r1.frame x2
    ·obtain ⟨bd,hbd⟩:=Option.isSome_iff_exists.1 c2
     have c1' : (fn.name == "runtime.NumGoroutine") = false:=by simpa using c1
     simp [execOp,hop,resolve,hcal,Act.eval,Deferred.ofValue,invoke,callFunc,hfn,c1,hbd]
   ·exact RU hC hOF hlow' hok fp hind (s':=s'.fn) (fun a2 w2 h2 hd2 r2=>hQ _ _ h2 hd2 r2) _ _ listed s4.fn a' w' h' hd' rfl hpwB g1 g2 g3 r' hst2)
  ops.length (List.range ops.length) (Array.replicate rops.size false) s.fn a _ h hd (by simp) ?_ (by simp) ?_ ?_ r.drew hst1
 ·rw [hBl] at key
  rw [show rops.size = ops.length + (ops2.length + 1) from hlen]
  rw [hlen] at key
  exact key
 ·refine List.pairwise_append.2 ⟨List.pairwise_lt_range,List.pairwise_cons.2 ⟨fun x hx=>?_,hpwB⟩,fun x hx y hy=>?_⟩
  ·obtain ⟨q,_,rfl⟩:=List.mem_map.1 hx
   omega
  ·have:=List.mem_range.1 hx
   rcases List.mem_cons.1 hy with rfl | hy
   ·omega
   ·obtain ⟨q,_,rfl⟩:=List.mem_map.1 hy
    omega
 ·intro i
  have hrep:i < rops.size→(Array.replicate rops.size false).getD i true = false:=fun q=>by simp [q]
  simp only [List.mem_append,List.mem_range,List.mem_cons,List.mem_map]
  constructor
  ·intro q
   have:i < rops.size:=by
    rcases q with q | q | ⟨z,q1,q2⟩ <;> omega
   exact ⟨this,hrep this⟩
  ·rintro ⟨q,_⟩
   by_cases c1:i < ops.length
   ·exact .inl c1
   ·by_cases c2:i = ops.length
    ·exact .inr (.inl c2)
    ·exact .inr (.inr ⟨i - (ops.length + 1),by omega,by omega⟩)
 ·intro k hk
  exfalso
  simp only [Array.getD_eq_getD_getElem?,Array.getElem?_replicate] at hk
  split at hk <;> simp at hk
end
end Vm
end Go.Proofs.Ytiimibimkpimbaa
set_option linter.unusedVariables false
set_option linter.unusedSimpArgs false
namespace Go.Proofs.Ytiimibimkpimbaa
namespace Vm
open Go.RowKit
noncomputable def lim {α:Type} (g:Nat→Option α):Option α:=@dite _ (∃ n x,g n = some x) (Classical.propDecidable _) (fun h=>some h.choose_spec.choose) (fun _=>none)
def aLw {α:Type} (g:Nat→Option α):Prop:=∀ n m x,n ≤ m→g n = some x→g m = some x
theorem O3 {α:Type} {g:Nat→Option α} (hg:aLw g) {x:α}:lim g = some x ↔ ∃ n,g n = some x:=by
 unfold lim
 split
 ·rename_i h
  have hs:=h.choose_spec.choose_spec
  constructor
  ·intro e; cases e; exact ⟨_,hs⟩
  ·rintro ⟨n,hn⟩
   have h1:=hg _ (max h.choose n) _ (Nat.le_max_left _ _) hs
   have h2:=hg _ (max h.choose n) _ (Nat.le_max_right _ _) hn
   rw [h1] at h2
   exact h2
 ·rename_i h
  constructor
  ·intro e; cases e
  ·rintro ⟨n,hn⟩; exact absurd ⟨n,x,hn⟩ h
theorem pI {α:Type} {a b:Option α} (h:∀ x,a = some x ↔ b = some x):a = b:=by
 cases a with
 | none=>cases b with
  | none=>rfl
  | some y=>have:=(h y).2 rfl; cases this
 | some x=>exact ((h x).1 rfl).symm
def CLe (C D:Nat→List Vm.D→Option Vm.D):Prop:=∀ f ds x,C f ds = some x→D f ds = some x
section
variable {C C' : Nat→List D→Option D}
theorem aEI (hc:CLe C C') {site:Nat} {ev:dH→V} {bl:Nat→Option aK} {so:i7} {r:V × List (Nat × Option aK)} (e:eC C site ev bl so = some r):eC C' site ev bl so = some r:=by
 cases so with
 | call f args =>
  simp only [eC] at e ⊢
  split at e
  ·cases e
  ·split at e
   ·cases e
   ·rename_i x hx
    rw [hc _ _ _ hx]
    exact e
 | callv g args =>
  simp only [eC] at e ⊢
  split at e
  ·split at e
   ·cases e
   ·split at e
    ·cases e
    ·rename_i x hx
     rw [hc _ _ _ hx]
     exact e
  ·cases e
 | calln f args =>
  simp only [eC] at e ⊢
  split at e
  ·cases e
  ·split at e
   ·rename_i hx
    rw [hc _ _ _ hx]
    exact e
   ·cases e
 | lend f args t =>
  simp only [eC] at e ⊢
  split at e
  ·split at e
   ·cases e
   ·split at e
    ·rename_i hn
     rw [if_pos hn]
     split at e
     ·rename_i hx
      rw [hc _ _ _ hx]
      exact e
     ·cases e
    ·cases e
  ·cases e
 | _=>exact e
theorem HP (hc:CLe C C') {o:bK} {s:St} {r:St × Fp} (e:jN C o s = some r):jN C' o s = some r:=by
 unfold jN at e ⊢
 split at e
 ·split at e
  ·rename_i v wr ha
   rw [aEI hc ha]; exact e
  ·cases e
 ·exact e
 ·cases e
theorem vY (hc:CLe C C'):∀ {l:List bK} {s:St} {r:St × List Fp},i6 C l s = some r→i6 C' l s = some r
 | [],s,r,e=>e
 | o :: l,s,r,e=>by
  simp only [i6] at e ⊢
  split at e
  ·rename_i s' p h1
   rw [HP hc h1]
   split at e
   ·rename_i s'' ps h2
    simp only [vY hc h2]
    exact e
   ·cases e
  ·cases e
theorem aA7 (o:bK) (s:St):u0 C o s = (jN C o s).map (·.1):=by
 unfold u0 jN
 cases o.wants s.get with
 | run =>
  simp only
  cases eC C o.site (cX s.get) s.blk o.op with
  | none=>rfl
  | some r=>rfl
 | skip=>rfl
 | bad=>rfl
theorem ER:∀ (l:List bK) (s:St),kS C l s = (i6 C l s).map (·.1)
 | [],s=>rfl
 | o :: l,s=>by
  simp only [kS,i6,aA7]
  cases jN C o s with
  | none=>rfl
  | some r =>
   obtain ⟨s',p⟩:=r
   simp only [Option.map_some,ER l s']
   cases i6 C l s' with
   | none=>rfl
   | some q=>rfl
theorem oQ (hc:CLe C C') {l:List bK} {d:Option (List (Nat × Nat))} {s s' : St} (e:fZ C l d s = some s'):fZ C' l d s = some s':=by
 cases d with
 | none =>
  simp only [fZ,ER,Option.map_eq_some_iff] at e ⊢
  obtain ⟨r,h1,h2⟩:=e
  exact ⟨r,vY hc h1,h2⟩
 | some ps =>
  simp only [fZ] at e ⊢
  split at e
  ·rename_i h1
   rw [vY hc h1]; exact e
  ·cases e
theorem AZ {f g:St→Option (Ex × St)} (h:∀ s r,f s = some r→g s = some r):∀ {n m:Nat} {s:St} {r:Ex × St},n ≤ m→qW f n s = some r→qW g m s = some r
 | 0,m,s,r,_,e=>by cases e
 | n + 1,0,s,r,hle,e=>by omega
 | n + 1,m + 1,s,r,hle,e=>by
  simp only [qW] at e ⊢
  cases hf:f s with
  | none=>rw [hf] at e; cases e
  | some q =>
   obtain ⟨ex,s'⟩:=q
   rw [hf] at e
   rw [h s _ hf]
   cases ex with
   | normal=>exact AZ h (by omega) e
   | exit id=>exact e
   | ret=>exact e
theorem nR (hc:CLe C C') {n m:Nat} (hnm:n ≤ m):∀ (c:aT) (s:St) (r:Ex × St),bZ C n c s = some r→bZ C' m c s = some r:=by
 intro c
 induction c with
 | skip=>exact fun s r e=>e
 | region ops d =>
  intro s r e
  simp only [bZ] at e ⊢
  split at e
  ·rename_i h1; rw [oQ hc h1]; exact e
  ·cases e
 | seq a b iha ihb =>
  intro s r e
  simp only [bZ] at e ⊢
  cases ha:bZ C n a s with
  | none=>rw [ha] at e; cases e
  | some q =>
   obtain ⟨ex,s'⟩:=q
   rw [ha] at e
   rw [iha s _ ha]
   cases ex with
   | normal=>exact ihb _ _ e
   | exit id=>exact e
   | ret=>exact e
 | cond c a b iha ihb =>
  intro s r e
  simp only [bZ] at e ⊢
  split at e
  ·exact iha _ _ e
  ·exact ihb _ _ e
  ·cases e
 | block id a iha =>
  intro s r e
  simp only [bZ] at e ⊢
  cases ha:bZ C n a s with
  | none=>rw [ha] at e; cases e
  | some q=>rw [ha] at e; rw [iha s _ ha]; exact e
 | loop a iha =>
  intro s r e
  simp only [bZ] at e ⊢
  exact AZ iha hnm e
 | exit id=>exact fun s r e=>e
 | ret=>exact fun s r e=>e
 | hand g=>exact fun s r e=>e
 | inl ops args dst f body res id slots ih =>
  intro s r e
  simp only [bZ] at e ⊢
  split at e
  ·cases e
  ·rename_i s1 h1
   have h1' : kS C' ops s = some s1:=oQ (d:=none) hc h1
   rw [h1']
   simp only
   split at e
   ·cases e
   ·rename_i s2 h2
    cases hb:bZ C n body s2 with
    | none=>rw [hb] at e; cases e
    | some q=>rw [hb] at e; simp only [ih s2 _ hb]; exact e
 | inlv ops x nc args dst f body res id slots ih =>
  intro s r e
  simp only [bZ] at e ⊢
  split at e
  ·cases e
  ·rename_i s1 h1
   have h1' : kS C' ops s = some s1:=oQ (d:=none) hc h1
   rw [h1']
   simp only
   split at e
   ·cases e
   ·rename_i caps hcaps
    split at e
    ·cases e
    ·rename_i s2 h2
     cases hb:bZ C n body s2 with
     | none=>rw [hb] at e; cases e
     | some q=>rw [hb] at e; simp only [ih s2 _ hb]; exact e
 | pre m' a iha=>exact fun s r e=>iha _ _ e
 | post a m' iha =>
  intro s r e
  simp only [bZ] at e ⊢
  cases ha:bZ C n a s with
  | none=>rw [ha] at e; cases e
  | some q=>rw [ha] at e; rw [iha s _ ha]; exact e
end
theorem EV (T:u5):∀ (n f:Nat) (ds:List D) (x:D),iG T n f ds = some x→iG T (n + 1) f ds = some x
 | 0,f,ds,x,e=>by cases e
 | n + 1,f,ds,x,e=>by
  rw [iG] at e ⊢
  cases hT:T f with
  | none=>rw [hT] at e; cases e
  | some d =>
   rw [hT] at e
   cases d with
   | told o=>exact e
   | toldL o=>exact e
   | code sf =>
   simp only at e ⊢
   split at e
   ·rename_i hl
    rw [if_pos hl]
    cases hla:hZ 0 ds with
    | none =>
     rw [hla] at e
     simp only at e ⊢
     cases he:bZ (iG T n) n sf.body ⟨nT 0 ds,[]⟩ with
     | none=>rw [he] at e; cases e
     | some q =>
      rw [he] at e
      rw [nR (EV T n) (Nat.le_succ n) _ _ _ he]
      exact e
    | some t =>
     rw [hla] at e
     simp only at e ⊢
     split at e
     ·rename_i hq
      rw [if_pos hq]
      cases he:bZ (iG T n) n sf.body (wN t ds) with
      | none=>rw [he] at e; cases e
      | some q =>
       rw [he] at e
       rw [nR (EV T n) (Nat.le_succ n) _ _ _ he]
       exact e
     ·cases e
   ·cases e
theorem kU (T:u5) {n m:Nat} (h:n ≤ m):CLe (iG T n) (iG T m):=by
 induction h with
 | refl=>exact fun _ _ _ e=>e
 | step _ ih=>exact fun f ds x e=>EV T _ f ds x (ih f ds x e)
noncomputable def call (T:u5) (f:Nat) (ds:List D):Option D:=lim fun n=>iG T n f ds
noncomputable def ev (T:u5) (c:aT) (s:St):Option (Ex × St):=lim fun n=>bZ (iG T n) n c s
theorem qY {T:u5} {f:Nat} {ds:List D} {x:D}:call T f ds = some x ↔ ∃ n,iG T n f ds = some x:=O3 fun _ _ _ h e=>kU T h _ _ _ e
theorem gT {T:u5} {c:aT} {s:St} {r:Ex × St}:ev T c s = some r ↔ ∃ n,bZ (iG T n) n c s = some r:=O3 fun _ _ _ h e=>nR (kU T h) h _ _ _ e
theorem XE {P:Program} {T:u5} (hT:∀ f sf,T f = some (.code sf)→∃ fn,P.funcs[f]? = some fn ∧ EG P fn sf) (hO:∀ f d,T f = some d→VV P f d) (hm:P.follows .mixedOrders = true) {f:Nat} {ds:List D} {x:D} (e:call T f ds = some x) (hl:hZ 0 ds = none):CJ P f ds x:=by
 obtain ⟨n,hn⟩:=qY.1 e
 exact (JH T hT hO hm n f ds x hn).1 hl
section
variable {T:u5}
theorem TU (n:Nat):CLe (iG T n) (call T):=fun f ds x e=>qY.2 ⟨n,e⟩
theorem aFm {site:Nat} {evv:dH→V} {bl:Nat→Option aK} {so:i7} {r:V × List (Nat × Option aK)} (e:eC (call T) site evv bl so = some r):∃ n,eC (iG T n) site evv bl so = some r:=by
 cases so with
 | call f args =>
  simp only [eC] at e ⊢
  split at e
  ·cases e
  ·rename_i ds hds
   split at e
   ·cases e
   ·rename_i x hx
    obtain ⟨n,hn⟩:=qY.1 hx
    exact ⟨n,by rw [hn]; exact e⟩
 | callv g args =>
  simp only [eC] at e ⊢
  split at e
  ·split at e
   ·cases e
   ·split at e
    ·cases e
    ·rename_i x hx
     obtain ⟨n,hn⟩:=qY.1 hx
     exact ⟨n,by rw [hn]; exact e⟩
  ·cases e
 | calln f args =>
  simp only [eC] at e ⊢
  split at e
  ·cases e
  ·rename_i ds hds
   split at e
   ·rename_i hx
    obtain ⟨n,hn⟩:=qY.1 hx
    exact ⟨n,by rw [hn]; exact e⟩
   ·cases e
 | lend f args t =>
  simp only [eC] at e ⊢
  split at e
  ·split at e
   ·cases e
   ·split at e
    ·rename_i hq
     simp only [if_pos hq]
     split at e
     ·rename_i hx
      obtain ⟨n,hn⟩:=qY.1 hx
      exact ⟨n,by rw [hn]; exact e⟩
     ·cases e
    ·cases e
  ·cases e
 | _=>exact ⟨0,e⟩
theorem XK {o:bK} {s:St} {r:St × Fp} (e:jN (call T) o s = some r):∃ n,jN (iG T n) o s = some r:=by
 unfold jN at e ⊢
 split at e
 ·split at e
  ·rename_i v wr ha
   obtain ⟨n,hn⟩:=aFm ha
   exact ⟨n,by rw [hn]; exact e⟩
  ·cases e
 ·exact ⟨0,e⟩
 ·cases e
theorem CT:∀ {l:List bK} {s:St} {r:St × List Fp},i6 (call T) l s = some r→∃ n,i6 (iG T n) l s = some r
 | [],s,r,e=>⟨0,e⟩
 | o :: l,s,r,e=>by
  simp only [i6] at e ⊢
  split at e
  ·rename_i s' p h1
   split at e
   ·rename_i s'' ps h2
    obtain ⟨n1,g1⟩:=XK h1
    obtain ⟨n2,g2⟩:=CT h2
    refine ⟨max n1 n2,?_⟩
    rw [HP (kU T (Nat.le_max_left n1 n2)) g1]
    simp only [vY (kU T (Nat.le_max_right n1 n2)) g2]
    exact e
   ·cases e
  ·cases e
theorem yD {l:List bK} {d:Option (List (Nat × Nat))} {s s' : St}:fZ (call T) l d s = some s' ↔ ∃ n,fZ (iG T n) l d s = some s':=by
 constructor
 ·intro e
  cases d with
  | none =>
   simp only [fZ,ER,Option.map_eq_some_iff] at e ⊢
   obtain ⟨r,h1,h2⟩:=e
   obtain ⟨n,hn⟩:=CT h1
   exact ⟨n,r,hn,h2⟩
  | some ps =>
   simp only [fZ] at e ⊢
   split at e
   ·rename_i h1
    obtain ⟨n,hn⟩:=CT h1
    exact ⟨n,by rw [hn]; exact e⟩
   ·cases e
 ·rintro ⟨n,hn⟩; exact oQ (TU n) hn
theorem aHK (s:St):ev T .skip s = some (.normal,s):=gT.2 ⟨0,rfl⟩
theorem aGf (id:Nat) (s:St):ev T (.exit id) s = some (.exit id,s):=gT.2 ⟨0,rfl⟩
theorem aJD (ops:List bK) (args:List dH) (dst:Option Nat) (f:Nat) (body:aT) (res:List mS) (id:Nat) (slots:List Nat) (s:St):ev T (.inl ops args dst f body res id slots) s = (match kS (call T) ops s with
  | none=>none
  | some s1=>match NM args id slots s1 with
   | none=>none
   | some s2=>match ev T body s2 with
    | some (.normal,s3)=>(pE dst res id slots s3).map fun s4=>(.normal,s4)
    | some (.ret,s3)=>(pE dst res id slots s3).map fun s4=>(.normal,s4)
    | _=>none):=by
 refine pI fun r=>?_
 rw [gT]
 constructor
 ·rintro ⟨n,hn⟩
  simp only [bZ] at hn
  split at hn
  ·cases hn
  ·rename_i s1 h1
   have h1' : kS (call T) ops s = some s1:=oQ (d:=none) (TU n) h1
   rw [h1']
   simp only
   split at hn
   ·cases hn
   ·rename_i s2 h2
    cases hb:bZ (iG T n) n body s2 with
    | none=>rw [hb] at hn; cases hn
    | some q=>rw [hb] at hn; simp only [h2,gT.2 ⟨n,hb⟩]; exact hn
 ·intro e
  split at e
  ·cases e
  ·rename_i s1 h1
   obtain ⟨n1,g1⟩:=(yD (l:=ops) (d:=none)).1 h1
   split at e
   ·cases e
   ·rename_i s2 h2
    cases hb:ev T body s2 with
    | none=>rw [hb] at e; cases e
    | some q =>
     rw [hb] at e
     obtain ⟨n2,g2⟩:=gT.1 hb
     refine ⟨max n1 n2,?_⟩
     have g1' : kS (iG T (max n1 n2)) ops s = some s1:=oQ (d:=none) (kU T (Nat.le_max_left n1 n2)) g1
     have g2':=nR (kU T (Nat.le_max_right n1 n2)) (Nat.le_max_right n1 n2) _ _ _ g2
     simp only [bZ,g1',h2,g2']
     exact e
theorem aJE (s:St):ev T .ret s = some (.ret,s):=gT.2 ⟨0,rfl⟩
theorem OL (l:List bK) (d:Option (List (Nat × Nat))) (s:St):ev T (.region l d) s = (fZ (call T) l d s).map fun s'=>(.normal,s'):=by
 refine pI fun r=>?_
 rw [gT,Option.map_eq_some_iff]
 constructor
 ·rintro ⟨n,hn⟩
  simp only [bZ] at hn
  split at hn
  ·rename_i s' h1; cases hn; exact ⟨s',yD.2 ⟨n,h1⟩,rfl⟩
  ·cases hn
 ·rintro ⟨s',h1,rfl⟩
  obtain ⟨n,hn⟩:=yD.1 h1
  exact ⟨n,by simp only [bZ,hn]⟩
theorem aJj (a b:aT) (s:St):ev T (.seq a b) s = (match ev T a s with | some (.normal,s')=>ev T b s' | r=>r):=by
 refine pI fun r=>?_
 rw [gT]
 constructor
 ·rintro ⟨n,hn⟩
  simp only [bZ] at hn
  cases ha:bZ (iG T n) n a s with
  | none=>rw [ha] at hn; cases hn
  | some q =>
   obtain ⟨ex,s'⟩:=q
   rw [ha] at hn
   rw [gT.2 ⟨n,ha⟩]
   cases ex with
   | normal=>exact gT.2 ⟨n,hn⟩
   | exit id=>exact hn
   | ret=>exact hn
 ·intro e
  cases ha:ev T a s with
  | none=>rw [ha] at e; cases e
  | some q =>
   obtain ⟨ex,s'⟩:=q
   rw [ha] at e
   obtain ⟨n1,g1⟩:=gT.1 ha
   cases ex with
   | normal =>
    obtain ⟨n2,g2⟩:=gT.1 e
    refine ⟨max n1 n2,?_⟩
    simp only [bZ,nR (kU T (Nat.le_max_left n1 n2)) (Nat.le_max_left n1 n2) _ _ _ g1]
    exact nR (kU T (Nat.le_max_right n1 n2)) (Nat.le_max_right n1 n2) _ _ _ g2
   | exit id=>exact ⟨n1,by simp only [bZ,g1]; exact e⟩
   | ret=>exact ⟨n1,by simp only [bZ,g1]; exact e⟩
theorem aFF (c:dH) (a b:aT) (s:St):ev T (.cond c a b) s = (match cX s.get c with | .d (.bool true)=>ev T a s | .d (.bool false)=>ev T b s | _=>none):=by
 refine pI fun r=>?_
 rw [gT]
 simp only [bZ]
 generalize cX s.get c = v
 cases v with
 | d x=>cases x with
  | bool b=>cases b <;> exact gT.symm
  | _=>simp
 | _=>simp
theorem aDz (id:Nat) (a:aT) (s:St):ev T (.block id a) s = (match ev T a s with | some (.exit id',s')=>if id' = id then some (.normal,s') else some (.exit id',s') | r=>r):=by
 refine pI fun r=>?_
 rw [gT]
 constructor
 ·rintro ⟨n,hn⟩
  simp only [bZ] at hn
  cases ha:bZ (iG T n) n a s with
  | none=>rw [ha] at hn; cases hn
  | some q=>rw [ha] at hn; rw [gT.2 ⟨n,ha⟩]; exact hn
 ·intro e
  cases ha:ev T a s with
  | none=>rw [ha] at e; cases e
  | some q =>
   rw [ha] at e
   obtain ⟨n1,g1⟩:=gT.1 ha
   exact ⟨n1,by simp only [bZ,g1]; exact e⟩
theorem aG2 (m:xS) (a:aT) (s:St):ev T (.post a m) s = (match ev T a s with | some (.normal,s')=>some (.normal,m.app s') | r=>r):=by
 refine pI fun r=>?_
 rw [gT]
 constructor
 ·rintro ⟨n,hn⟩
  simp only [bZ] at hn
  cases ha:bZ (iG T n) n a s with
  | none=>rw [ha] at hn; cases hn
  | some q=>rw [ha] at hn; rw [gT.2 ⟨n,ha⟩]; exact hn
 ·intro e
  cases ha:ev T a s with
  | none=>rw [ha] at e; cases e
  | some q =>
   rw [ha] at e
   obtain ⟨n1,g1⟩:=gT.1 ha
   exact ⟨n1,by simp only [bZ,g1]; exact e⟩
theorem QB (a:aT) (s:St):ev T (.loop a) s = (match ev T a s with | some (.normal,s')=>ev T (.loop a) s' | r=>r):=by
 refine pI fun r=>?_
 rw [gT]
 constructor
 ·rintro ⟨n,hn⟩
  simp only [bZ] at hn
  cases n with
  | zero=>cases hn
  | succ n =>
   simp only [qW] at hn
   cases ha:bZ (iG T (n + 1)) (n + 1) a s with
   | none=>rw [ha] at hn; cases hn
   | some q =>
    obtain ⟨ex,s'⟩:=q
    rw [ha] at hn
    rw [gT.2 ⟨n + 1,ha⟩]
    cases ex with
    | normal=>exact gT.2 ⟨n + 1,by simp only [bZ]; exact AZ (fun _ _ e=>e) (Nat.le_succ n) hn⟩
    | exit id=>exact hn
    | ret=>exact hn
 ·intro e
  cases ha:ev T a s with
  | none=>rw [ha] at e; cases e
  | some q =>
   obtain ⟨ex,s'⟩:=q
   rw [ha] at e
   obtain ⟨n1,g1⟩:=gT.1 ha
   cases ex with
   | normal =>
    obtain ⟨n2,g2⟩:=gT.1 e
    refine ⟨max n1 n2 + 1,?_⟩
    have h1:=nR (kU T (show n1 ≤ max n1 n2 + 1 by omega)) (show n1 ≤ max n1 n2 + 1 by omega) _ _ _ g1
    simp only [bZ,qW,h1]
    simp only [bZ] at g2
    exact AZ (fun s r e=>nR (kU T (show n2 ≤ max n1 n2 + 1 by omega)) (show n2 ≤ max n1 n2 + 1 by omega) _ _ _ e) (show n2 ≤ max n1 n2 by omega) g2
   | exit id=>exact ⟨n1 + 1,by simp only [bZ,qW,nR (kU T (Nat.le_succ n1)) (Nat.le_succ n1) _ _ _ g1]; exact e⟩
   | ret=>exact ⟨n1 + 1,by simp only [bZ,qW,nR (kU T (Nat.le_succ n1)) (Nat.le_succ n1) _ _ _ g1]; exact e⟩
theorem aBq {f:Nat} {o:List D→Option D} (hf:T f = some (.told o)) (ds:List D) (hlt:hZ 0 ds = none):call T f ds = o ds:=by
 refine pI fun x=>?_
 rw [qY]
 constructor
 ·rintro ⟨n,hn⟩
  cases n with
  | zero=>cases hn
  | succ n=>simpa only [iG,hf,if_pos hlt] using hn
 ·intro e
  exact ⟨1,by simpa only [iG,hf,if_pos hlt] using e⟩
theorem V7 {f t:Nat} {o:List D→Option D} (hf:T f = some (.toldL o)) (ds:List D) (hlt:hZ 0 ds = some t):call T f ds = o ds:=by
 refine pI fun x=>?_
 have hl:(hZ 0 ds).isSome = true:=by rw [hlt]; rfl
 rw [qY]
 constructor
 ·rintro ⟨n,hn⟩
  cases n with
  | zero=>cases hn
  | succ n=>simpa only [iG,hf,if_pos hl] using hn
 ·intro e
  exact ⟨1,by simpa only [iG,hf,if_pos hl] using e⟩
theorem aF8 {f:Nat} {sf:gC} (hf:T f = some (.code sf)) (ds:List D) (hl:ds.length = sf.np) (hlt:hZ 0 ds = none):call T f ds = (match ev T sf.body ⟨nT 0 ds,[]⟩ with
  | some (.normal,s)=>CR sf s
  | some (.ret,s)=>CR sf s
  | _=>none):=by
 refine pI fun x=>?_
 rw [qY]
 constructor
 ·rintro ⟨n,hn⟩
  cases n with
  | zero=>cases hn
  | succ n =>
   simp only [iG,hf,if_pos hl,hlt] at hn
   cases he:bZ (iG T n) n sf.body ⟨nT 0 ds,[]⟩ with
   | none=>rw [he] at hn; cases hn
   | some q=>rw [he] at hn; rw [gT.2 ⟨n,he⟩]; exact hn
 ·intro e
  cases he:ev T sf.body ⟨nT 0 ds,[]⟩ with
  | none=>rw [he] at e; cases e
  | some q =>
   rw [he] at e
   obtain ⟨n,hn⟩:=gT.1 he
   exact ⟨n + 1,by simp only [iG,hf,if_pos hl,hlt,hn]; exact e⟩
theorem Z2 {f t:Nat} {sf:gC} (hf:T f = some (.code sf)) (ds:List D) (hl:ds.length = sf.np) (hlt:hZ 0 ds = some t) (hle:sf.lend = true) (hnd:wW t sf.body = true):call T f ds = (match ev T sf.body (wN t ds) with
  | some (.normal,s)=>uG sf s t
  | some (.ret,s)=>uG sf s t
  | _=>none):=by
 refine pI fun x=>?_
 rw [qY]
 constructor
 ·rintro ⟨n,hn⟩
  cases n with
  | zero=>cases hn
  | succ n =>
   simp only [iG,hf,if_pos hl,hlt,if_pos (And.intro hle hnd)] at hn
   cases he:bZ (iG T n) n sf.body (wN t ds) with
   | none=>rw [he] at hn; cases hn
   | some q=>rw [he] at hn; rw [gT.2 ⟨n,he⟩]; exact hn
 ·intro e
  cases he:ev T sf.body (wN t ds) with
  | none=>rw [he] at e; cases e
  | some q =>
   rw [he] at e
   obtain ⟨n,hn⟩:=gT.1 he
   exact ⟨n + 1,by simp only [iG,hf,if_pos hl,hlt,if_pos (And.intro hle hnd),hn]; exact e⟩
end
def wV {S X:Type} (step:S→Option (S ⊕ X)):Nat→S→Option X
 | 0,_=>none
 | n + 1,s=>match step s with
  | none=>none
  | some (.inl s')=>wV step n s'
  | some (.inr x)=>some x
noncomputable def eX {S X:Type} (step:S→Option (S ⊕ X)) (s:S):Option X:=lim fun n=>wV step n s
section
variable {S X:Type} {step:S→Option (S ⊕ X)}
theorem KO:∀ (n m:Nat) (s:S) (x:X),n ≤ m→wV step n s = some x→wV step m s = some x
 | 0,m,s,x,_,e=>by cases e
 | n + 1,0,s,x,h,e=>by omega
 | n + 1,m + 1,s,x,h,e=>by
  simp only [wV] at e ⊢
  split at e
  ·cases e
  ·exact KO n m _ x (by omega) e
  ·exact e
theorem wI {s:S} {x:X}:eX step s = some x ↔ ∃ n,wV step n s = some x:=O3 fun n m x h e=>KO n m _ x h e
theorem XQ (s:S):eX step s = (match step s with | none=>none | some (.inl s')=>eX step s' | some (.inr x)=>some x):=by
 refine pI fun x=>?_
 rw [wI]
 constructor
 ·rintro ⟨n,hn⟩
  cases n with
  | zero=>cases hn
  | succ n =>
   simp only [wV] at hn
   cases hs:step s with
   | none=>rw [hs] at hn; cases hn
   | some q =>
    rw [hs] at hn
    cases q with
    | inl s'=>exact wI.2 ⟨n,hn⟩
    | inr y=>exact hn
 ·intro e
  cases hs:step s with
  | none=>rw [hs] at e; cases e
  | some q =>
   rw [hs] at e
   cases q with
   | inl s'=>obtain ⟨n,hn⟩:=wI.1 e; exact ⟨n + 1,by simp only [wV,hs]; exact hn⟩
   | inr y=>exact ⟨1,by simp only [wV,hs]; exact e⟩
def eR (enc:S→St) (out:X→Ex × St):Option (S ⊕ X)→Option (Ex × St)
 | none=>none
 | some (.inl s')=>some (.normal,enc s')
 | some (.inr x)=>some (out x)
theorem aEs {T:u5} {c:aT} (enc:S→St) (out:X→Ex × St) (hout:∀ x s,out x ≠ (.normal,s)) (h:∀ s,ev T c (enc s) = eR enc out (step s)) (s:S) :
  ev T (.loop c) (enc s) = (eX step s).map out:=by
 refine pI fun r=>?_
 rw [Option.map_eq_some_iff]
 constructor
 ·intro e
  obtain ⟨n,hn⟩:=gT.1 e
  simp only [bZ] at hn
  generalize hk:(n:Nat) = k at hn
  have key:∀ (k:Nat) (s:S),qW (bZ (iG T n) n c) k (enc s) = some r→∃ x,wV step k s = some x ∧ out x = r:=by
   intro k
   induction k with
   | zero=>intro s e; cases e
   | succ k ih =>
    intro s e
    simp only [qW] at e
    cases hc:bZ (iG T n) n c (enc s) with
    | none=>rw [hc] at e; cases e
    | some q =>
     have h1:=gT.2 ⟨n,hc⟩
     rw [h s] at h1
     rw [hc] at e
     simp only [wV]
     cases hs:step s with
     | none=>rw [hs] at h1; cases h1
     | some y =>
      rw [hs] at h1
      cases y with
      | inl s' =>
       obtain rfl:=Option.some.inj h1
       exact ih s' e
      | inr x =>
       simp only [eR,Option.some.injEq] at h1
       refine ⟨x,rfl,?_⟩
       obtain ⟨ex,s'⟩:=q
       cases ex with
       | normal=>exact absurd h1 (hout x s')
       | exit id=>rw [h1]; exact Option.some.inj e
       | ret=>rw [h1]; exact Option.some.inj e
  subst hk
  obtain ⟨x,g1,g2⟩:=key n s hn
  exact ⟨x,wI.2 ⟨n,g1⟩,g2⟩
 ·rintro ⟨x,h1,rfl⟩
  obtain ⟨n,hn⟩:=wI.1 h1
  clear h1
  induction n generalizing s with
  | zero=>cases hn
  | succ n ih =>
   simp only [wV] at hn
   rw [QB,h s]
   cases hs:step s with
   | none=>rw [hs] at hn; cases hn
   | some q =>
    rw [hs] at hn
    cases q with
    | inl s'=>exact ih s' hn
    | inr y =>
     obtain rfl:=Option.some.inj hn
     simp only [eR]
     cases ho:out y with
     | mk ex s' =>
      cases ex with
      | normal=>exact absurd ho (hout y s')
      | exit id=>rfl
      | ret=>rfl
end
end Vm
end Go.Proofs.Ytiimibimkpimbaa
