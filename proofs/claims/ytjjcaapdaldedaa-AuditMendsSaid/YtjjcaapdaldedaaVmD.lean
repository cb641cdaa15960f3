/- Code is run; calls are run. Calls are run; what a call answers at last. A call that is run in its caller's place amid a region whose order is drawn: all else stands ahead of it or behind it. What code and calls answer at last; equations to reckon with. -/
import Derived.Test.YtjjcaapdaldedaaVmC
set_option linter.unusedVariables false
set_option linter.unusedSimpArgs false
namespace Go.Proofs.Ytjjcaapdaldedaa
namespace Vm
open Go.RowKit
def aBi (keep:List Nat) (bl:Nat->Option aH):V->Bool
 | .ptr id _=>match bl id with
  | some (.box _)=>keep.contains id
  | _=>false
 | _=>false
def vS (keep:List Nat) (bl:Nat->Option aH):V->V
 | .ptr id off=>match bl id with
  | some (.box _)=>if keep.contains id then .ptr id off else .any
  | some (.fbox cs)=>.d (.ptr cs off)
  | _=>.any
 | .own id ver=>match bl id with
  | some (.rows v _ _ _)=>if keep.contains id && ver == v then .own id 0 else .any
  | some (.froz v rows)=>if ver = v then .d (.sl rows) else .any
  | _=>.any
 | .orow id ver i off=>match bl id with
  | some (.rows v _ _ _)=>if keep.contains id && ver == v then .orow id 0 i off else .any
  | _=>.any
 | .fn f caps=>if caps.all (aBi keep bl) = true then .fn f caps else .any
 | .mp id=>match bl id with
  | some (.mp _ _)=>if keep.contains id then .mp id else .any
  | some (.fmp ek m)=>.d (.mp ek m)
  | _=>.any
 | v=>v
def SU (keep:List Nat) (bl:Nat->Option aH):V->V
 | .agg cs=>.agg (cs.map (vS keep bl))
 | v=>vS keep bl v
def IQ (keep:List Nat) (bl:Nat->Option aH):V->V
 | .tup vs=>.tup (vs.map (SU keep bl))
 | v=>SU keep bl v
def CR (keep:List Nat) (bl:Nat->Option aH):aH->Option aH
 | .box cs=>some (.box (cs.map (vS keep bl)))
 | .rows _ e s rows=>some (.rows 0 e s rows)
 | .froz _ _=>none
 | .fbox _=>none
 | .outer cs=>some (.outer (cs.map (IQ keep bl)))
 | .mp ek m=>some (.mp ek m)
 | .fmp _ _=>none
def mkT (p:Nat × Nat × Nat × Nat) (s:St):St:=match s.get p.1,s.blk p.2.1 with
 | .nil,none=>if 0 < p.2.2.2 then ⟨(p.1,.own p.2.1 0) :: s.fr,(p.2.1,some (.rows 0 p.2.2.1 p.2.2.2 [])) :: s.bl⟩ else s
 | _,_=>s
def mkC (p:Nat × Nat × Nat × Nat × Nat) (s:St):St:=match s.blk p.1,s.blk p.2.2.1 with
 | some (.box cs),none=>match cs[p.2.1]? with
  | some .nil=>if 0 < p.2.2.2.2 then ⟨s.fr,(p.1,some (.box (cs.set p.2.1 (.own p.2.2.1 0)))) :: (p.2.2.1,some (.rows 0 p.2.2.2.1 p.2.2.2.2 [])) :: s.bl⟩ else s
  | _=>s
 | _,_=>s
def frT (t:Nat) (s:St):St:=match rA s.blk (s.get t) with
 | some d=>⟨(t,.d d) :: s.fr,JV s.blk (s.get t) ++ s.bl⟩
 | none=>s
def frC (p:Nat × Nat) (s:St):St:=match s.blk p.1 with
 | some (.box cs)=>match cs[p.2]? with
  | some v=>match j8 s.blk v with
   | some d=>⟨s.fr,(p.1,some (.box (cs.set p.2 (.d d)))) :: (B6 s.blk v ++ s.bl)⟩
   | none=>s
  | none=>s
 | _=>s
def S1 (live keep:List Nat) (s:St):St:=⟨live.map fun t=>(t,IQ keep s.blk (s.get t)),keep.map fun i=>(i,(s.blk i).bind (CR keep s.blk))⟩
def xN.app (m:xN) (s:St):St:=S1 m.live m.keep (m.fzC.foldl (fun s p=>frC p s) (m.fzT.foldl (fun s t=>frT t s) (m.ownC.foldl (fun s p=>mkC p s) (m.ownT.foldl (fun s p=>mkT p s) s))))
section
variable {nt:Nat} {w0:dO} {w:World} {h0 h:Hp} {s:St} {a:Act} {hd:Nat->Value}
theorem UM {α:Type} (f:Nat->α) (d:α) (t:Nat):∀ l:List Nat,lk (l.map fun i=>(i,f i)) d t = if t ∈ l then f t else d
 | []=>rfl
 | k :: l=>by
  simp only [List.map_cons,lk,UM f d t l,List.mem_cons]
  by_cases e:t = k
  ·subst e; simp
  ·simp [e]
theorem uE {fr:Nat->V} {bl bl' : Nat->Option aH} {keep:List Nat} (r:Rl nt w0 h0 fr bl a w h hd) (hbl:∀ i,bl' i = if i ∈ keep then (bl i).bind (CR keep bl) else none) {v:Value} {x:V} (hx:R1 h hd bl v x):R1 h hd bl' v (vS keep bl x):=by
 cases x with
 | ptr id off =>
  obtain ⟨⟨b,hb,hbx⟩,g,q1,q2⟩:=hx
  simp only [vS,hb]
  cases b with
  | box cs =>
   simp only
   split
   ·rename_i hk
    exact ⟨⟨_,by rw [hbl,if_pos (by simpa using hk),hb]; rfl,rfl⟩,g,q1,q2⟩
   ·trivial
  | fbox cs =>
   have:=r.blk id _ hb
   simp only [BR,q1] at this
   subst q2
   exact ⟨rfl,KV this⟩
  | _=>trivial
 | own id ver =>
  obtain ⟨b,c,hb,hc,hle,h1,he⟩:=hx
  simp only [vS,hb]
  cases b with
  | box cs=>trivial
  | fbox cs=>trivial
  | outer cs=>trivial
  | mp ek m=>trivial
  | fmp ek m=>trivial
  | rows v' e s rows =>
   simp only [aH.ver?,Option.some.injEq] at hc
   simp only
   split
   ·rename_i hk
    simp only [Bool.and_eq_true,beq_iff_eq] at hk
    exact ⟨_,0,by rw [hbl,if_pos (by simpa using hk.1),hb]; rfl,rfl,Nat.le_refl _,h1,fun _=>he (by omega)⟩
   ·trivial
  | froz v' rows =>
   simp only [aH.ver?,Option.some.injEq] at hc
   simp only
   split
   ·rename_i hv
    refine ⟨rfl,?_⟩
    rw [he (by omega)]
    exact r.blk id _ hb
   ·trivial
 | orow id ver i off =>
  obtain ⟨b,c,hb,hc,hle,h1,he⟩:=hx
  simp only [vS,hb]
  cases b with
  | rows v' e s rows =>
   simp only [aH.ver?,Option.some.injEq] at hc
   simp only
   split
   ·rename_i hk
    simp only [Bool.and_eq_true,beq_iff_eq] at hk
    obtain ⟨hk,rfl⟩:=hk
    refine ⟨_,0,by rw [hbl,if_pos (by simpa using hk),hb]; rfl,rfl,Nat.le_refl _,h1,fun e' s' rows' eq=>?_⟩
    cases eq
    exact he e s rows rfl
   ·trivial
  | _=>trivial
 | mp id =>
  obtain ⟨⟨b,hb,hbx⟩,q1,g,q2⟩:=hx
  simp only [vS,hb]
  cases b with
  | mp ek m =>
   simp only
   split
   ·rename_i hk
    exact ⟨⟨_,by rw [hbl,if_pos (by simpa using hk),hb]; rfl,rfl⟩,q1,g,q2⟩
   ·trivial
  | fmp ek m =>
   have:=r.blk id _ hb
   subst q1
   exact ⟨rfl,this⟩
  | _=>trivial
 | any=>trivial
 | d x=>exact hx
 | nil=>exact hx
 | agg cs=>exact hx
 | tup cs=>exact hx
 | fn f caps =>
  simp only [vS]
  split
  ·rename_i hall
   obtain ⟨arr,e,hs,hr⟩:=hx
   refine ⟨arr,e,hs,fun j x hj=>?_⟩
   have hc:=List.all_eq_true.1 hall x (List.mem_of_getElem? hj)
   have hxr:=hr j x hj
   cases x with
   | ptr id off =>
    obtain ⟨⟨b,hb,hx⟩,q⟩:=hxr
    simp only [aBi,hb] at hc
    cases b with
    | box cs =>
     simp only at hc
     exact ⟨⟨_,by rw [hbl,if_pos (by simpa using hc),hb]; rfl,rfl⟩,q⟩
    | _=>cases hc
   | _=>exact hxr.elim
  ·trivial
theorem uK {fr:Nat->V} {bl bl' : Nat->Option aH} {keep:List Nat} (r:Rl nt w0 h0 fr bl a w h hd) (hbl:∀ i,bl' i = if i ∈ keep then (bl i).bind (CR keep bl) else none) {v:Value} {x:V} (hx:R2 h hd bl v x):R2 h hd bl' v (SU keep bl x):=by
 cases x with
 | agg cs =>
  obtain ⟨arr,rfl,h1,h2⟩:=hx
  refine ⟨arr,rfl,by simpa using h1,fun j x hx=>?_⟩
  rw [List.getElem?_map,Option.map_eq_some_iff] at hx
  obtain ⟨y,hy,rfl⟩:=hx
  exact ⟨uE r hbl (h2 j y hy).1,(h2 j y hy).2⟩
 | tup vs=>exact (show False from hx).elim
 | any=>exact R2.of1 (uE r hbl (x:=.any) hx)
 | d x=>exact R2.of1 (uE r hbl (x:=.d x) hx)
 | nil=>exact R2.of1 (uE r hbl (x:=.nil) hx)
 | ptr i o=>exact R2.of1 (uE r hbl (x:=.ptr i o) hx)
 | own i n=>exact R2.of1 (uE r hbl (x:=.own i n) hx)
 | orow i n j o=>exact R2.of1 (uE r hbl (x:=.orow i n j o) hx)
 | fn f c=>exact R2.of1 (uE r hbl (x:=.fn f c) hx)
 | mp i=>exact R2.of1 (uE r hbl (x:=.mp i) hx)
theorem X7 {fr:Nat->V} {bl bl' : Nat->Option aH} {keep:List Nat} (r:Rl nt w0 h0 fr bl a w h hd) (hbl:∀ i,bl' i = if i ∈ keep then (bl i).bind (CR keep bl) else none) {v:Value} {x:V} (hx:R3 h hd bl v x):R3 h hd bl' v (IQ keep bl x):=by
 cases x with
 | tup vs =>
  obtain ⟨arr,rfl,h1,h2⟩:=hx
  refine ⟨arr,rfl,by simpa using h1,fun j x hx=>?_⟩
  rw [List.getElem?_map,Option.map_eq_some_iff] at hx
  obtain ⟨y,hy,rfl⟩:=hx
  exact uK r hbl (h2 j y hy)
 | agg cs=>exact R3.of2 (uK r hbl (x:=.agg cs) hx)
 | any=>exact R3.of2 (uK r hbl (x:=.any) hx)
 | d x=>exact R3.of2 (uK r hbl (x:=.d x) hx)
 | nil=>exact R3.of2 (uK r hbl (x:=.nil) hx)
 | ptr i o=>exact R3.of2 (uK r hbl (x:=.ptr i o) hx)
 | own i n=>exact R3.of2 (uK r hbl (x:=.own i n) hx)
 | orow i n j o=>exact R3.of2 (uK r hbl (x:=.orow i n j o) hx)
 | fn f c=>exact R3.of2 (uK r hbl (x:=.fn f c) hx)
 | mp i=>exact R3.of2 (uK r hbl (x:=.mp i) hx)
theorem aGf (r:Rl nt w0 h0 s.get s.blk a w h hd) (live keep:List Nat):Rl nt w0 h0 (S1 live keep s).get (S1 live keep s).blk a w h hd:=by
 have hg:∀ t,(S1 live keep s).get t = if t ∈ live then IQ keep s.blk (s.get t) else .any:=fun t=>UM _ _ _ _
 have hb:∀ i,(S1 live keep s).blk i = if i ∈ keep then (s.blk i).bind (CR keep s.blk) else none:=fun i=>UM _ _ _ _
 have hcase:∀ id b,(S1 live keep s).blk id = some b->∃ b0,s.blk id = some b0 ∧ CR keep s.blk b0 = some b:=by
  intro id b e
  rw [hb] at e
  split at e
  ·rw [Option.bind_eq_some_iff] at e; exact e
  ·cases e
 refine { tmps:=r.tmps,defers:=r.defers,fixed:=r.fixed,below:=r.below,hle:=r.hle,h0le:=r.h0le,hbase:=r.hbase,frame:=fun t=>?_,blk:=fun id b e=>?_,sep:=?_ }
 ·rw [hg]
  split
  ·exact X7 r hb (r.frame t)
  ·trivial
 ·obtain ⟨b0,e1,e2⟩:=hcase id b e
  have hB:=r.blk id b0 e1
  cases b0 with
  | box cs =>
   simp only [CR,Option.some.injEq] at e2
   subst e2
   obtain ⟨g,arr,ee,q1,q2,q3,q4,q5,q6⟩:=hB
   refine ⟨g,arr,ee,q1,q2,q3,by simpa using q4,fun j x hx=>?_,q6⟩
   rw [List.getElem?_map,Option.map_eq_some_iff] at hx
   obtain ⟨y,hy,rfl⟩:=hx
   exact ⟨uE r hb (q5 j y hy).1,(q5 j y hy).2⟩
  | rows v' ee ss rows=>simp only [CR,Option.some.injEq] at e2; subst e2; exact hB
  | froz v' rows=>cases e2
  | fbox cs=>cases e2
  | mp ek m=>simp only [CR,Option.some.injEq] at e2; subst e2; exact hB
  | fmp ek m=>cases e2
  | outer cs =>
   simp only [CR,Option.some.injEq] at e2
   subst e2
   intro j x hx
   rw [List.getElem?_map,Option.map_eq_some_iff] at hx
   obtain ⟨y,hy,rfl⟩:=hx
   exact X7 r hb (hB j y hy)
 ·intro i j bi bj g hi hj li lj gi gj
  obtain ⟨b0,e1,e2⟩:=hcase i bi hi
  obtain ⟨b1,e3,e4⟩:=hcase j bj hj
  have l0:b0.live = true:=by cases b0 <;> first | rfl | (cases e2; done) | (simp only [CR,Option.some.injEq] at e2; subst e2; simp [aH.live] at li)
  have l1:b1.live = true:=by cases b1 <;> first | rfl | (cases e4; done) | (simp only [CR,Option.some.injEq] at e4; subst e4; simp [aH.live] at lj)
  exact r.sep i j b0 b1 g e1 e3 l0 l1 gi gj
theorem aA4 (r:Rl nt w0 h0 s.get s.blk a w h hd) {id e size:Nat} (hs:s.blk id = none) (hz:0 < size):∃ hd',Rl nt w0 h0 s.get (bG s.blk [(id,some (.rows 0 e size []))]) a w h hd' ∧ hd' id = .slice none 0 0 ∧ R1 h hd' (bG s.blk [(id,some (.rows 0 e size []))]) (.slice none 0 0) (.own id 0):=by
 obtain ⟨hd',hh,hr⟩:=r.newRows' (w':=w) none (fun d e=>by cases e) id hs e size [] (.slice none 0 0) [] hz (by simp [maxLen]) ⟨rfl,rfl,rfl,Nat.le_refl _,fun _ _ _=>rfl⟩ (World.ownsRow_nil w _ e size) (fun i row hi=>by simp at hi)
 exact ⟨hd',hr,hh,⟨_,0,jO _ _ _,rfl,Nat.le_refl _,rfl,fun _=>hh.symm⟩⟩
theorem aKl (r:Rl nt w0 h0 s.get s.blk a w h hd) (p:Nat × Nat × Nat × Nat):∃ hd',Rl nt w0 h0 (mkT p s).get (mkT p s).blk a w h hd':=by
 obtain ⟨t,id,e,size⟩:=p
 unfold mkT
 split
 ·rename_i h1 h2
  split
  ·rename_i hz
   simp only at h1 h2 hz
   obtain ⟨hd',hr,hh,hv⟩:=aA4 r h2 hz (e:=e)
   refine ⟨hd',?_⟩
   have e1:(⟨(t,.own id 0) :: s.fr,(id,some (.rows 0 e size [])) :: s.bl⟩ : St).get = dJ s.get (some t) (.own id 0):=by
    funext t'
    simp only [St.get,lk,dJ,Option.some.injEq]
    by_cases q:t' = t
    ·rw [if_pos q,if_pos q.symm]
    ·rw [if_neg q,if_neg fun x=>q x.symm]
   have e2:(⟨(t,.own id 0) :: s.fr,(id,some (.rows 0 e size [])) :: s.bl⟩ : St).blk = bG s.blk [(id,some (.rows 0 e size []))]:=by
    funext i
    simp only [St.blk,lk,bG]
   simp only at e1 e2 ⊢
   rw [e1,e2]
   refine { hr with frame:=fun t'=>?_ }
   simp only [dJ,Option.some.injEq]
   by_cases q:t = t'
   ·rw [if_pos q]
    have:=r.frame t
    rw [h1] at this
    subst q
    rw [show a.tmps.getD t undef = _ from this]
    exact hv
   ·rw [if_neg q]; exact hr.frame t'
  ·exact ⟨hd,r⟩
 ·exact ⟨hd,r⟩
theorem aLn (r:Rl nt w0 h0 s.get s.blk a w h hd) (p:Nat × Nat × Nat × Nat × Nat):∃ hd',Rl nt w0 h0 (mkC p s).get (mkC p s).blk a w h hd':=by
 obtain ⟨b,c,id,e,size⟩:=p
 unfold mkC
 split
 ·rename_i cs h1 h2
  split
  ·rename_i h3
   split
   ·rename_i hz
    simp only at h1 h2 h3 hz
    obtain ⟨hd',hr,hh,hv⟩:=aA4 r h2 hz (e:=e)
    have hne:b ≠ id:=fun q=>by rw [q,h2] at h1; cases h1
    have hb' : bG s.blk [(id,some (.rows 0 e size []))] b = some (.box cs):=by rw [uR _ _ hne]; exact h1
    obtain ⟨g,arr,ee,q1,q2,q3,q4,q5,q6⟩:=hr.blk b _ hb'
    have hself:arr.getD c undef = .slice none 0 0:=(q5 c _ h3).1
    obtain ⟨hd'',hr''⟩:=hr.setBox (w':=w) none (fun d e=>by cases e) undef b cs (cs.set c (.own id 0)) hb' g arr arr ee q1 (by simpa using q4) (by
     intro j x hx
     rw [List.getElem?_set] at hx
     split at hx
     ·rename_i hj
      subst hj
      split at hx
      ·cases hx
       rw [hself]
       exact ⟨hv,rfl⟩
      ·cases hx
     ·exact q5 j x hx) q3 ⟨rfl,rfl,rfl,Nat.le_refl _,fun _ _ _=>rfl⟩
    refine ⟨hd'',?_⟩
    have e2:(⟨s.fr,(b,some (.box (cs.set c (.own id 0)))) :: (id,some (.rows 0 e size [])) :: s.bl⟩ : St).blk = bG (bG s.blk [(id,some (.rows 0 e size []))]) [(b,some (.box (cs.set c (.own id 0))))]:=by
     funext i
     simp only [St.blk,lk,bG]
    simp only at e2 ⊢
    rw [e2]
    exact hr''
   ·exact ⟨hd,r⟩
  ·exact ⟨hd,r⟩
 ·exact ⟨hd,r⟩
theorem QQ {α:Type}:∀ (l m:List (Nat × α)) (d:α) (t:Nat),lk (l ++ m) d t = lk l (lk m d t) t
 | [],m,d,t=>rfl
 | (k,v) :: l,m,d,t=>by simp only [List.cons_append,lk]; rw [QQ l m d t]
theorem aKP (r:Rl nt w0 h0 s.get s.blk a w h hd) (t:Nat):∃ h',Rl nt w0 h0 (frT t s).get (frT t s).blk a w h' hd:=by
 unfold frT
 split
 ·rename_i d hd0
  refine ⟨FA w h hd (JV s.blk (s.get t)),?_⟩
  have r':=r.freeze _ (aAc (bl:=s.blk) (s.get t))
  have e1:(⟨(t,.d d) :: s.fr,JV s.blk (s.get t) ++ s.bl⟩ : St).get = dJ s.get (some t) (.d d):=by
   funext t'
   simp only [St.get,lk,dJ,Option.some.injEq]
   by_cases q:t' = t
   ·rw [if_pos q,if_pos q.symm]
   ·rw [if_neg q,if_neg fun x=>q x.symm]
  have e2:(⟨(t,.d d) :: s.fr,JV s.blk (s.get t) ++ s.bl⟩ : St).blk = bG s.blk (JV s.blk (s.get t)):=by
   funext i
   simp only [St.blk,bG,QQ]
  rw [e1,e2]
  refine { r' with frame:=fun t'=>?_ }
  simp only [dJ,Option.some.injEq]
  by_cases q:t = t'
  ·rw [if_pos q]
   subst q
   have hx:R1 h hd s.blk (a.tmps.getD t undef) (s.get t):=by
    have:=r.frame t
    cases hg:s.get t <;> rw [hg] at this hd0 <;> first | exact this | cases hd0
   have:=ER r (JV s.blk (s.get t)) hx hd0 fun p hp=>hp
   exact ⟨this.2,this.1⟩
  ·rw [if_neg q]; exact r'.frame t'
 ·exact ⟨h,r⟩
theorem XJ {bl:Nat->Option aH} {v:V} {q:Nat × Option aH} {ds:List D} (h:q ∈ JV bl v) (h2:q.2 = some (.fbox ds)):False:=by
 unfold JV at h
 split at h
 ·split at h
  ·simp only [List.mem_singleton] at h; rw [h] at h2; cases h2
  ·cases h
 ·split at h
  ·simp only [List.mem_singleton] at h; rw [h] at h2; cases h2
  ·cases h
 ·cases h
theorem aE7 {bl:Nat->Option aH} {v:V} {q:Nat × Option aH} {ds:List D} (h:q ∈ B6 bl v) (h2:q.2 = some (.fbox ds)) (h3:∀ off,v = .ptr q.1 off->False):False:=by
 unfold B6 at h
 split at h
 ·split at h
  ·split at h
   ·rcases List.mem_cons.1 h with e | h
    ·exact h3 _ (by rw [e])
    ·obtain ⟨x,_,hx⟩:=List.mem_flatMap.1 h
     exact XJ hx h2
   ·cases h
  ·cases h
 ·exact XJ h h2
theorem aKy (r:Rl nt w0 h0 s.get s.blk a w h hd) (p:Nat × Nat):∃ h' hd',Rl nt w0 h0 (frC p s).get (frC p s).blk a w h' hd':=by
 obtain ⟨b,c⟩:=p
 unfold frC
 split
 ·rename_i cs h1
  split
  ·rename_i v h3
   split
   ·rename_i d hd0
    simp only at h1 h3
    have r':=r.freeze _ (ND (bl:=s.blk) v)
    have hb' : bG s.blk (B6 s.blk v) b = some (.box cs):=by
     refine (uI ?_).trans h1
     intro hm
     obtain ⟨q,hq,rfl⟩:=List.mem_map.1 hm
     rcases ND (bl:=s.blk) v q hq with ⟨v',e',s',rows,g1,_⟩ | ⟨cs',ds,g1,g2,_⟩ | ⟨ek,m,g1,_⟩
     ·rw [h1] at g1; cases g1
     ·refine aE7 (bl:=s.blk) (v:=v) hq g2 fun off e=>?_
      subst e
      obtain ⟨ds',hds⟩ : ∃ ds',aJ (rA s.blk) cs = some ds':=by
       unfold j8 at hd0
       dsimp only at hd0
       rw [h1] at hd0
       obtain ⟨ds',e1,_⟩:=Option.map_eq_some_iff.1 hd0
       exact ⟨ds',e1⟩
      obtain ⟨y,_,hy⟩:=(bF hds).2 c _ h3
      unfold rA at hy
      dsimp only at hy
      rw [h1] at hy
      cases hy
     ·rw [h1] at g1; cases g1
    obtain ⟨g,arr,ee,q1,q2,q3,q4,q5,q6⟩:=r'.blk b _ hb'
    obtain ⟨_,arr0,ee0,z1,z2,z3,z4,z5,z6⟩:=r.blk b _ h1
    rw [q1] at z1; cases z1
    rw [q3] at z3; cases z3
    have hval:=mN r (B6 s.blk v) (z5 c v h3).1 hd0 fun p hp=>hp
    obtain ⟨hd'',hr''⟩:=r'.setBox (w':=w) none (fun d e=>by cases e) undef b cs (cs.set c (.d d)) hb' g arr arr ee q1 (by simpa using q4) (by
     intro j x hx
     rw [List.getElem?_set] at hx
     split at hx
     ·rename_i hj
      subst hj
      split at hx
      ·cases hx
       exact ⟨⟨hval.2,hval.1⟩,(z5 c v h3).2⟩
      ·cases hx
     ·exact q5 j x hx) q3 ⟨rfl,rfl,rfl,Nat.le_refl _,fun _ _ _=>rfl⟩
    refine ⟨FA w h hd (B6 s.blk v),hd'',?_⟩
    have e2:(⟨s.fr,(b,some (.box (cs.set c (.d d)))) :: (B6 s.blk v ++ s.bl)⟩ : St).blk = bG (bG s.blk (B6 s.blk v)) [(b,some (.box (cs.set c (.d d))))]:=by
     funext i
     simp only [St.blk,lk,bG,QQ]
    simp only at e2 ⊢
    rw [e2]
    exact hr''
   ·exact ⟨h,hd,r⟩
  ·exact ⟨h,hd,r⟩
 ·exact ⟨h,hd,r⟩
theorem F0 {α:Type} (f:α->St->St) (hf:∀ (x:α) (s:St) (h:Hp) (hd:Nat->Value),Rl nt w0 h0 s.get s.blk a w h hd->∃ h' hd',Rl nt w0 h0 (f x s).get (f x s).blk a w h' hd'):∀ (l:List α) (s:St) (h:Hp) (hd:Nat->Value),Rl nt w0 h0 s.get s.blk a w h hd->∃ h' hd',Rl nt w0 h0 (l.foldl (fun s x=>f x s) s).get (l.foldl (fun s x=>f x s) s).blk a w h' hd'
 | [],s,h,hd,r=>⟨h,hd,r⟩
 | x :: l,s,h,hd,r=>by
  obtain ⟨h',hd',r'⟩:=hf x s h hd r
  exact F0 f hf l (f x s) h' hd' r'
theorem OW (r:Rl nt w0 h0 s.get s.blk a w h hd) (m:xN):∃ h' hd',Rl nt w0 h0 (m.app s).get (m.app s).blk a w h' hd':=by
 obtain ⟨h1,hd1,r1⟩:=F0 mkT (fun x s h hd r=>⟨h,aKl r x⟩) m.ownT s h hd r
 obtain ⟨h2,hd2,r2⟩:=F0 mkC (fun x s h hd r=>⟨h,aLn r x⟩) m.ownC _ h1 hd1 r1
 obtain ⟨h3,hd3,r3⟩:=F0 frT (fun x s h hd r=>let ⟨h',q⟩:=aKP r x; ⟨h',hd,q⟩) m.fzT _ h2 hd2 r2
 obtain ⟨h4,hd4,r4⟩:=F0 frC (fun x s h hd r=>aKy r x) m.fzC _ h3 hd3 r3
 exact ⟨h4,hd4,aGf r4 m.live m.keep⟩
end
inductive Ex where
 | normal | exit (id:Nat) | ret
def Ex.go:Ex->Exit
 | .normal=>.normal
 | .exit id=>.exit id
 | .ret=>.ret
def yM (f:St->Option (Ex × St)):Nat->St->Option (Ex × St)
 | 0,_=>none
 | n + 1,s=>match f s with
  | some (.normal,s')=>yM f n s'
  | r=>r
def B3 (s:St):uX->Option V
 | .tmp t=>some (s.get t)
 | .cell t size isAgg=>match b7 (fun _ _=>none) 0 (fun _=>s.get t) s.blk (.load size isAgg (.t t)) with
  | some (v,_)=>some v
  | none=>none
def uH:Nat->List V->List (Nat × V)
 | _,[]=>[]
 | i,v :: vs=>(i,v) :: uH (i + 1) vs
def V.noTup:V->Bool
 | .tup _=>false
 | _=>true
def aMr (args:List bS) (id:Nat) (slots:List Nat) (s:St):Option St :=
 if (s.blk id).isNone = true then some ⟨uH 0 (args.map (bH s.get)),(id,some (.outer (slots.map s.get))) :: s.bl⟩ else none
def EG (ws:List V) (id:Nat) (slots:List Nat) (s:St):Option St :=
 if (s.blk id).isNone = true then some ⟨uH 0 ws,(id,some (.outer (slots.map s.get))) :: s.bl⟩ else none
def C0 (f nc:Nat):V->Option (List V)
 | .fn g caps=>if g = f ∧ caps.length = nc then some caps else none
 | _=>none
def RP (dst:Option Nat) (v:V):List (Nat × V):=match dst with
 | some d=>[(d,v)]
 | none=>[]
def rC (dst:Option Nat) (res:List uX) (id:Nat) (slots:List Nat) (s:St):Option St:=match s.blk id,aJ (B3 s) res with
 | some (.outer cs),some [v]=>some ⟨RP dst v ++ slots.zip cs,(id,none) :: s.bl⟩
 | some (.outer cs),some vs=>if vs.all V.noTup = true then some ⟨RP dst (.tup vs) ++ slots.zip cs,(id,none) :: s.bl⟩ else none
 | _,_=>none
def bA (C:Nat->List D->Option D) (n:Nat):aF->St->Option (Ex × St)
 | .skip,s=>some (.normal,s)
 | .region ops draw,s=>match eH C ops draw s with
  | some s'=>some (.normal,s')
  | none=>none
 | .seq a b,s=>match bA C n a s with
  | some (.normal,s')=>bA C n b s'
  | r=>r
 | .cond c a b,s=>match bH s.get c with
  | .d (.bool true)=>bA C n a s
  | .d (.bool false)=>bA C n b s
  | _=>none
 | .block id a,s=>match bA C n a s with
  | some (.exit id',s')=>if id' = id then some (.normal,s') else some (.exit id',s')
  | r=>r
 | .loop a,s=>yM (bA C n a) n s
 | .exit id,s=>some (.exit id,s)
 | .ret,s=>some (.ret,s)
 | .inlv ops x nc args dst f body res id slots,s=>match lG C ops s with
  | none=>none
  | some s1=>match C0 f nc (bH s1.get x) with
   | none=>none
   | some caps=>match EG (args.map (bH s1.get) ++ caps) id slots s1 with
    | none=>none
    | some s2=>match bA C n body s2 with
     | some (.normal,s3)=>(rC dst res id slots s3).map fun s4=>(.normal,s4)
     | some (.ret,s3)=>(rC dst res id slots s3).map fun s4=>(.normal,s4)
     | _=>none
 | .pre m a,s=>bA C n a (m.app s)
 | .post a m,s=>match bA C n a s with
  | some (.normal,s')=>some (.normal,m.app s')
  | r=>r
 | .hand g,s=>match g s with
  | some s'=>some (.normal,s')
  | none=>none
 | .inl ops args dst f body res id slots,s=>match lG C ops s with
  | none=>none
  | some s1=>match aMr args id slots s1 with
   | none=>none
   | some s2=>match bA C n body s2 with
    | some (.normal,s3)=>(rC dst res id slots s3).map fun s4=>(.normal,s4)
    | some (.ret,s3)=>(rC dst res id slots s3).map fun s4=>(.normal,s4)
    | _=>none
theorem QL {P:Program} {c:Code} {Q:Exit->Act->World->Prop} (G:Nat->Act->World->Prop) (zero:∀ a w,¬ G 0 a w) (round:∀ k a w,G (k + 1) a w->c.wp P (Exit.then (fun a' w'=>G k a' w') Q) a w) :
  ∀ k a w,G k a w->(Code.loop c).wp P Q a w:=by
 intro k a w hG
 have least:∀ a w,(∃ k,G k a w)->∃ k,G k a w ∧ ∀ j,G j a w->k <= j:=by
  intro a w ⟨k,hk⟩
  induction k using Nat.strongRecOn with
  | _ k ih =>
   by_cases h:∃ j,j < k ∧ G j a w
   ·obtain ⟨j,hj,hg⟩:=h; exact ih j hj hg
   ·exact ⟨k,hk,fun j hj=>Nat.le_of_not_lt fun hlt=>h ⟨j,hlt,hj⟩⟩
 refine wp_loop (fun a w=>∃ k,G k a w) (fun a w=>@dite _ (∃ k,G k a w) (Classical.propDecidable _) (fun h=>(least a w h).choose) (fun _=>0)) ⟨k,hG⟩ ?_
 intro a w hI
 have hsp:=(least a w hI).choose_spec
 generalize hk0:(least a w hI).choose = k0 at hsp
 obtain ⟨g1,g2⟩:=hsp
 cases k0 with
 | zero=>exact absurd g1 (zero a w)
 | succ k1 =>
  refine wp_mono (round k1 a w g1) fun e a' w' hq=>?_
  cases e with
  | normal =>
   refine ⟨⟨k1,hq⟩,?_⟩
   have hI' : ∃ k,G k a' w':=⟨k1,hq⟩
   have h2:=(least a' w' hI').choose_spec.2 k1 hq
   simp only [dif_pos hI',dif_pos hI,hk0]
   omega
  | _=>exact hq
section
variable {P:Program} {nt:Nat} {w0:dO} {h0:Hp} {C:Nat->List D->Option D}
def yX (w0:dO):Code->Prop
 | .region _ ops _=>O6 w0 ops
 | .seq a b=>yX w0 a ∧ yX w0 b
 | .cond _ a b=>yX w0 a ∧ yX w0 b
 | .block _ a=>yX w0 a
 | .loop a=>yX w0 a
 | _=>True
theorem yX.none (h:∀ t,w0.F t = none):∀ c,yX w0 c
 | .region _ ops _=>fun _ _ d _=>h d
 | .seq a b=>⟨yX.none h a,yX.none h b⟩
 | .cond _ a b=>⟨yX.none h a,yX.none h b⟩
 | .block _ a=>yX.none h a
 | .loop a=>yX.none h a
 | .skip=>trivial
 | .exit _=>trivial
 | .ret=>trivial
 | .goto _=>trivial
 | .label _=>trivial
 | .scope _=>trivial
 | .refuse _=>trivial
 | .rangeFunc _ _ _ _=>trivial
theorem aBf (hC:tU P C) (hm:P.follows .mixedOrders = true) (n:Nat):∀ (sc:aF) (c:Code) (s s' : St) (ex:Ex) (a:Act) (w:World) (h:Hp) (hd:Nat->Value) (Q:Exit->Act->World->Prop),
  yX w0 c->wY P nt c = some sc.bare->bA C n sc s = some (ex,s')->Rl nt w0 h0 s.get s.blk a w h hd->(∀ a' w' h' hd',Rl nt w0 h0 s'.get s'.blk a' w' h' hd'->Q ex.go a' w')->c.wp P Q a w:=by
 intro sc
 induction sc with
 | skip =>
  intro c s s' ex a w h hd Q hF hl he r hQ
  cases c <;> simp only [wY,aF.bare] at hl
  case skip=>simp only [bA,Option.some.injEq,Prod.mk.injEq] at he; obtain ⟨rfl,rfl⟩:=he; exact wp_skip (hQ _ _ _ _ r)
  case region=>split at hl <;> first | (cases hl; done) | skip; split at hl <;> first | (cases hl; done) | skip; split at hl <;> cases hl
  case seq=>split at hl <;> cases hl
  case cond=>split at hl <;> cases hl
  case block=>rw [Option.map_eq_some_iff] at hl; obtain ⟨_,_,e⟩:=hl; cases e
  case loop=>rw [Option.map_eq_some_iff] at hl; obtain ⟨_,_,e⟩:=hl; cases e
  all_goals cases hl
 | region ops draw =>
  intro c s s' ex a w h hd Q hF hl he r hQ
  cases c <;> simp only [wY,aF.bare] at hl
  case region id rops dr =>
   split at hl
   ·cases hl
   ·rename_i l hlow
    simp only [bA] at he
    split at he
    ·rename_i s1 h1
     cases he
     split at hl
     ·rename_i hdr
      split at hl
      ·rename_i hok
       cases hl
       subst hdr
       exact SK hC hm hF hlow (draw:=true) (by simp [hok]) h1 r hQ
      ·cases hl
     ·rename_i hdr
      cases hl
      have:dr = false:=by simpa using hdr
      subst this
      exact SK hC hm hF hlow (draw:=false) (by simp) h1 r hQ
    ·cases he
  case seq=>split at hl <;> cases hl
  case cond=>split at hl <;> cases hl
  case block=>rw [Option.map_eq_some_iff] at hl; obtain ⟨_,_,e⟩:=hl; cases e
  case loop=>rw [Option.map_eq_some_iff] at hl; obtain ⟨_,_,e⟩:=hl; cases e
  all_goals cases hl
 | seq x y ihx ihy =>
  intro c s s' ex a w h hd Q hF hl he r hQ
  cases c <;> simp only [wY,aF.bare] at hl
  case region=>split at hl <;> first | (cases hl; done) | skip; split at hl <;> first | (cases hl; done) | skip; split at hl <;> cases hl
  case seq ca cb =>
   split at hl
   ·rename_i l1 l2 h1 h2
    cases hl
    refine wp_seq ?_
    simp only [bA] at he
    split at he
    ·rename_i s1 he1
     exact ihx ca s s1 .normal a w h hd _ hF.1 h1 he1 r fun a' w' h' hd' r'=>ihy cb s1 s' ex a' w' h' hd' Q hF.2 h2 he r' hQ
    ·rename_i hne
     refine ihx ca s s' ex a w h hd _ hF.1 h1 he r fun a' w' h' hd' r'=>?_
     cases ex with
     | normal=>exact absurd he (hne _)
     | exit id=>exact hQ _ _ _ _ r'
     | ret=>exact hQ _ _ _ _ r'
   ·cases hl
  case cond=>split at hl <;> cases hl
  case block=>rw [Option.map_eq_some_iff] at hl; obtain ⟨_,_,e⟩:=hl; cases e
  case loop=>rw [Option.map_eq_some_iff] at hl; obtain ⟨_,_,e⟩:=hl; cases e
  all_goals cases hl
 | cond c x y ihx ihy =>
  intro cc s s' ex a w h hd Q hF hl he r hQ
  cases cc <;> simp only [wY,aF.bare] at hl
  case region=>split at hl <;> first | (cases hl; done) | skip; split at hl <;> first | (cases hl; done) | skip; split at hl <;> cases hl
  case seq=>split at hl <;> cases hl
  case cond co ca cb =>
   split at hl
   ·rename_i l0 l1 l2 h1 h2 h3
    cases hl
    have hc:=aU r.frame h1
    simp only [bA] at he
    split at he
    ·rename_i hb
     rw [hb] at hc
     exact wp_cond_true (qR hc) (ihx ca s s' ex a w h hd Q hF.1 h2 he r hQ)
    ·rename_i hb
     rw [hb] at hc
     exact wp_cond_false (qR hc) (ihy cb s s' ex a w h hd Q hF.2 h3 he r hQ)
    ·cases he
   ·cases hl
  case block=>rw [Option.map_eq_some_iff] at hl; obtain ⟨_,_,e⟩:=hl; cases e
  case loop=>rw [Option.map_eq_some_iff] at hl; obtain ⟨_,_,e⟩:=hl; cases e
  all_goals cases hl
 | block id x ih =>
  intro c s s' ex a w h hd Q hF hl he r hQ
  cases c <;> simp only [wY,aF.bare] at hl
  case region=>split at hl <;> first | (cases hl; done) | skip; split at hl <;> first | (cases hl; done) | skip; split at hl <;> cases hl
  case seq=>split at hl <;> cases hl
  case cond=>split at hl <;> cases hl
  case block id' ca =>
   rw [Option.map_eq_some_iff] at hl
   obtain ⟨l1,h1,e⟩:=hl
   cases e
   refine wp_block ?_
   simp only [bA] at he
   split at he
   ·rename_i id'' s1 he1
    refine ih ca s s1 (.exit id'') a w h hd _ hF h1 he1 r fun a' w' h' hd' r'=>?_
    simp only [Ex.go,Exit.inBlock]
    split at he
    ·rename_i hid
     cases he
     rw [if_pos hid]
     exact hQ _ _ _ _ r'
    ·rename_i hid
     cases he
     rw [if_neg hid]
     exact hQ _ _ _ _ r'
   ·rename_i hne
    refine ih ca s s' ex a w h hd _ hF h1 he r fun a' w' h' hd' r'=>?_
    cases ex with
    | normal=>exact hQ _ _ _ _ r'
    | exit id=>exact absurd he (hne _ _)
    | ret=>exact hQ _ _ _ _ r'
  case loop=>rw [Option.map_eq_some_iff] at hl; obtain ⟨_,_,e⟩:=hl; cases e
  all_goals cases hl
 | loop x ih =>
  intro c s s' ex a w h hd Q hF hl he r hQ
  cases c <;> simp only [wY,aF.bare] at hl
  case region=>split at hl <;> first | (cases hl; done) | skip; split at hl <;> first | (cases hl; done) | skip; split at hl <;> cases hl
  case seq=>split at hl <;> cases hl
  case cond=>split at hl <;> cases hl
  case block=>rw [Option.map_eq_some_iff] at hl; obtain ⟨_,_,e⟩:=hl; cases e
  case loop ca =>
   rw [Option.map_eq_some_iff] at hl
   obtain ⟨l1,h1,e⟩:=hl
   cases e
   simp only [bA] at he
   refine QL (fun k a w=>∃ s h hd,yM (bA C n x) k s = some (ex,s') ∧ Rl nt w0 h0 s.get s.blk a w h hd) (fun a w ⟨s,h,hd,q,_⟩=>by simp [yM] at q) ?_ n a w ⟨s,h,hd,he,r⟩
   rintro k a w ⟨s,h,hd,q,r⟩
   simp only [yM] at q
   split at q
   ·rename_i s1 he1
    exact ih ca s s1 .normal a w h hd _ hF h1 he1 r fun a' w' h' hd' r'=>⟨s1,h',hd',q,r'⟩
   ·rename_i hne
    refine ih ca s s' ex a w h hd _ hF h1 q r fun a' w' h' hd' r'=>?_
    cases ex with
    | normal=>exact absurd q (hne _)
    | exit id=>exact hQ _ _ _ _ r'
    | ret=>exact hQ _ _ _ _ r'
  all_goals cases hl
 | exit id =>
  intro c s s' ex a w h hd Q hF hl he r hQ
  cases c <;> simp only [wY,aF.bare] at hl
  case region=>split at hl <;> first | (cases hl; done) | skip; split at hl <;> first | (cases hl; done) | skip; split at hl <;> cases hl
  case seq=>split at hl <;> cases hl
  case cond=>split at hl <;> cases hl
  case block=>rw [Option.map_eq_some_iff] at hl; obtain ⟨_,_,e⟩:=hl; cases e
  case loop=>rw [Option.map_eq_some_iff] at hl; obtain ⟨_,_,e⟩:=hl; cases e
  case exit=>cases hl; simp only [bA,Option.some.injEq,Prod.mk.injEq] at he; obtain ⟨rfl,rfl⟩:=he; exact wp_exit (hQ _ _ _ _ r)
  all_goals cases hl
 | ret =>
  intro c s s' ex a w h hd Q hF hl he r hQ
  cases c <;> simp only [wY,aF.bare] at hl
  case region=>split at hl <;> first | (cases hl; done) | skip; split at hl <;> first | (cases hl; done) | skip; split at hl <;> cases hl
  case seq=>split at hl <;> cases hl
  case cond=>split at hl <;> cases hl
  case block=>rw [Option.map_eq_some_iff] at hl; obtain ⟨_,_,e⟩:=hl; cases e
  case loop=>rw [Option.map_eq_some_iff] at hl; obtain ⟨_,_,e⟩:=hl; cases e
  case ret=>simp only [bA,Option.some.injEq,Prod.mk.injEq] at he; obtain ⟨rfl,rfl⟩:=he; exact wp_ret (hQ _ _ _ _ r)
  all_goals cases hl
 | hand g =>
  intro c s s' ex a w h hd Q hF hl he r hQ
  cases c <;> simp only [wY,aF.bare] at hl
  case region=>split at hl <;> first | (cases hl; done) | skip; split at hl <;> first | (cases hl; done) | skip; split at hl <;> cases hl
  case seq=>split at hl <;> cases hl
  case cond=>split at hl <;> cases hl
  case block=>rw [Option.map_eq_some_iff] at hl; obtain ⟨_,_,e⟩:=hl; cases e
  case loop=>rw [Option.map_eq_some_iff] at hl; obtain ⟨_,_,e⟩:=hl; cases e
  all_goals cases hl
 | inl ops args dst f body res id slots ih =>
  intro c s s' ex a w h hd Q hF hl he r hQ
  cases c <;> simp only [wY,aF.bare] at hl
  case region=>split at hl <;> first | (cases hl; done) | skip; split at hl <;> first | (cases hl; done) | skip; split at hl <;> cases hl
  case seq=>split at hl <;> cases hl
  case cond=>split at hl <;> cases hl
  case block=>rw [Option.map_eq_some_iff] at hl; obtain ⟨_,_,e⟩:=hl; cases e
  case loop=>rw [Option.map_eq_some_iff] at hl; obtain ⟨_,_,e⟩:=hl; cases e
  all_goals cases hl
 | inlv ops x nc args dst f body res id slots ih =>
  intro c s s' ex a w h hd Q hF hl he r hQ
  cases c <;> simp only [wY,aF.bare] at hl
  case region=>split at hl <;> first | (cases hl; done) | skip; split at hl <;> first | (cases hl; done) | skip; split at hl <;> cases hl
  case seq=>split at hl <;> cases hl
  case cond=>split at hl <;> cases hl
  case block=>rw [Option.map_eq_some_iff] at hl; obtain ⟨_,_,e⟩:=hl; cases e
  case loop=>rw [Option.map_eq_some_iff] at hl; obtain ⟨_,_,e⟩:=hl; cases e
  all_goals cases hl
 | pre m x ih =>
  intro c s s' ex a w h hd Q hF hl he r hQ
  simp only [aF.bare] at hl
  simp only [bA] at he
  obtain ⟨h',hd',r'⟩:=OW r m
  exact ih c _ s' ex a w h' hd' Q hF hl he r' hQ
 | post x m ih =>
  intro c s s' ex a w h hd Q hF hl he r hQ
  simp only [aF.bare] at hl
  simp only [bA] at he
  split at he
  ·rename_i s1 he1
   cases he
   refine ih c s s1 .normal a w h hd Q hF hl he1 r fun a' w' h' hd' r'=>?_
   obtain ⟨h'',hd'',r''⟩:=OW r' m
   exact hQ _ _ _ _ r''
  ·rename_i hne
   exact ih c s s' ex a w h hd Q hF hl he r hQ
end
end Vm
end Go.Proofs.Ytjjcaapdaldedaa
namespace Go.Proofs.Ytjjcaapdaldedaa
namespace Vm
open Go.RowKit
def aFA:D->V
 | .tup _=>.any
 | x=>aJd x
def pV:Nat->List D->List (Nat × V)
 | _,[]=>[]
 | i,d :: ds=>(i,aFA d) :: pV (i + 1) ds
def aKf (bl:Nat->Option aH):V->List Nat
 | .own id ver=>match bl id with
  | some (.rows v _ _ _)=>if ver = v then [id] else []
  | _=>[]
 | .mp id=>match bl id with
  | some (.mp _ _)=>[id]
  | _=>[]
 | _=>[]
def aGM (bl:Nat->Option aH):V->List Nat
 | .agg cs=>cs.flatMap (aKf bl)
 | v=>aKf bl v
def M1 (bl:Nat->Option aH):V->List Nat
 | .tup vs=>vs.flatMap (aGM bl)
 | v=>aGM bl v
def aEV:List Nat->Nat->Option Nat
 | [],_=>none
 | a :: l,x=>if a = x then some 0 else (aEV l x).map (· + 1)
def inN:List Nat->Nat->Bool
 | [],_=>false
 | a :: l,x=>if a = x then true else inN l x
def TZ:List Nat->Bool
 | []=>true
 | a :: l=>if inN l a = true then false else TZ l
def aBH (bl:Nat->Option aH) (ids:List Nat):V->Option D
 | .d x=>some x
 | .nil=>some (.sl [])
 | .own id ver=>match bl id with
  | some (.rows v _ _ _)=>if ver = v then (aEV ids id).map .ref else none
  | some (.froz v rows)=>if ver = v then some (.sl rows) else none
  | _=>none
 | .mp id=>match bl id with
  | some (.mp _ _)=>(aEV ids id).map .mref
  | some (.fmp ek m)=>some (.mp ek m)
  | _=>none
 | _=>none
def aDv (bl:Nat->Option aH) (ids:List Nat):V->Option D
 | .agg cs=>(aJ (aBH bl ids) cs).map .agg
 | v=>aBH bl ids v
def toR (bl:Nat->Option aH) (ids:List Nat):V->Option D
 | .tup vs=>(aJ (aDv bl ids) vs).map .tup
 | v=>aDv bl ids v
def aKj (bl:Nat->Option aH) (id:Nat):Option (Nat × Nat):=match bl id with
 | some (.rows _ e size _)=>if size = 0 then none else some (e,size)
 | some (.mp ek _)=>some (ek,0)
 | _=>none
def aKO (bl:Nat->Option aH) (id:Nat):Option (List (List D)):=match bl id with
 | some (.rows _ _ _ rows)=>some rows
 | some (.mp _ m)=>some (aKk m)
 | _=>none
def MG (bl:Nat->Option aH) (v:V):Option D :=
 if TZ (M1 bl v) = true then
  match toR bl (M1 bl v) v,aJ (aKj bl) (M1 bl v),aJ (aKO bl) (M1 bl v) with
  | some x,some es,some rs=>some (.own x es rs)
  | _,_,_=>none
 else none
def FZ (sf:dH) (s:St):Option D:=match aJ (B3 s) sf.results with
 | none=>none
 | some [v]=>if sf.fresh = true then MG s.blk v else jR s.blk v
 | some vs=>if sf.fresh = true then MG s.blk (.tup vs) else toD s.blk (.tup vs)
def O1 (sf:dH) (s:St) (t:Nat):Option D:=match s.get t with
 | .own id ver=>match s.blk id with
  | some (.rows v e size rows)=>if ver = v then match aJ (B3 s) sf.results with
    | none=>none
    | some [u]=>match jR s.blk u with
     | some y=>if LW y = true then some (.own y [(e,size)] [rows]) else none
     | none=>none
    | some us=>match toD s.blk (.tup us) with
     | some y=>if LW y = true then some (.own y [(e,size)] [rows]) else none
     | none=>none
   else none
  | _=>none
 | _=>none
def IU (t:Nat) (ds:List D):St:=⟨(t,.own 900000 0) :: pV 0 ds,match (ds[t]?).bind PB with
 | some (e,size,rows)=>[(900000,some (.rows 0 e size rows))]
 | none=>[]⟩
def D1 (t:Nat):aF->Bool
 | .region ops _=>ops.all fun o=>match o.dst with
  | some d=>d != t
  | none=>true
 | .seq a b=>D1 t a && D1 t b
 | .cond _ a b=>D1 t a && D1 t b
 | .block _ a=>D1 t a
 | .loop a=>D1 t a
 | .pre _ a=>D1 t a
 | .post a _=>D1 t a
 | _=>true
inductive Def where
 | code (sf:dH)
 | told (o:List D->Option D)
 /-- told,and lent a slice -/
 | toldL (o:List D->Option D)
abbrev zS:=Nat->Option Def
def kQ (T:zS):Nat->Nat->List D->Option D
 | 0,_,_=>none
 | n + 1,f,args=>match T f with
  | none=>none
  | some (.told o)=>if lN 0 args = none then o args else none
  | some (.toldL o)=>if (lN 0 args).isSome = true then o args else none
  | some (.code sf)=>if args.length = sf.np then match lN 0 args with
    | none=>match bA (kQ T n) n sf.body ⟨pV 0 args,[]⟩ with
     | some (.normal,s)=>FZ sf s
     | some (.ret,s)=>FZ sf s
     | _=>none
    | some t=>if sf.lend = true ∧ D1 t sf.body = true then match bA (kQ T n) n sf.body (IU t args) with
      | some (.normal,s)=>O1 sf s t
      | some (.ret,s)=>O1 sf s t
      | _=>none
     else none
   else none
theorem I3:∀ (l:List D) (i t:Nat),lk (pV i l) .any t = if i <= t then (match l[t - i]? with | some d=>aFA d | none=>.any) else .any
 | [],i,t=>by simp [pV,lk]
 | d :: l,i,t=>by
  simp only [pV,lk,I3 l (i + 1) t]
  by_cases e:t = i
  ·subst e; simp
  ·rw [if_neg e]
   by_cases h:i + 1 <= t
   ·rw [if_pos h,if_pos (by omega)]
    have:t - i = (t - (i + 1)) + 1:=by omega
    rw [this,List.getElem?_cons_succ]
   ·rw [if_neg h,if_neg (by omega)]
section
variable {P:Program}
theorem aBa {h:Hp} {hd:Nat->Value} {bl:Nat->Option aH} {v:Value} {d:D} (r:aQ h v d):R3 h hd bl v (aFA d):=by
 cases d with
 | tup vs=>trivial
 | agg cs=>exact R3.of2 (xA r (fun vs e=>by cases e))
 | int k n=>exact R3.of2 (xA r (fun vs e=>by cases e))
 | bool b=>exact R3.of2 (xA r (fun vs e=>by cases e))
 | str s=>exact R3.of2 (xA r (fun vs e=>by cases e))
 | sl rows=>exact R3.of2 (xA r (fun vs e=>by cases e))
 | ptr row off=>exact R3.of2 (xA r (fun vs e=>by cases e))
 | fn f caps=>exact R3.of2 (xA r (fun vs e=>by cases e))
 | np=>exact R3.of2 (xA r (fun vs e=>by cases e))
 | mp ek m=>exact R3.of2 (xA r (fun vs e=>by cases e))
 | ref n=>cases r
 | mref n=>cases r
 | own x es rs=>cases r
theorem vM {nt:Nat} {w0:dO} {w:World} {h0 h:Hp} {s:St} {a:Act} {hd:Nat->Value} (r:Rl nt w0 h0 s.get s.blk a w h hd):∀ (l:List ResultVar) (rs:List uX) (vs:List V),aJ (QG P) l = some rs->aJ (B3 s) rs = some vs ->
  ∃ cvs:List Value,(l.mapM fun x=>(match x with | .tmp t=>pure (a.tmps.getD t undef) | .cell b t=>do loadVar t (← asAddr (a.tmps.getD b undef)):Sem Value)).run P w = .ok cvs w ∧ cvs.length = vs.length ∧ ∀ (j:Nat) (x:V),vs[j]? = some x->R3 h hd s.blk (cvs.getD j undef) x
 | [],rs,vs,h1,h2=>by
  simp only [aJ,Option.some.injEq] at h1
  subst h1
  simp only [aJ,Option.some.injEq] at h2
  subst h2
  exact ⟨[],by simp,rfl,fun j x hx=>by simp at hx⟩
 | x :: l,rs,vs,h1,h2=>by
  simp only [aJ] at h1
  split at h1
  ·cases h1
  ·rename_i y hy
   split at h1
   ·cases h1
   ·rename_i ys hys
    cases h1
    simp only [aJ] at h2
    split at h2
    ·cases h2
    ·rename_i v hv
     split at h2
     ·cases h2
     ·rename_i us hus
      cases h2
      obtain ⟨cvs,g1,g2,g3⟩:=vM r l ys us hys hus
      have hone:∃ cv,((match x with | .tmp t=>pure (a.tmps.getD t undef) | .cell b t=>do loadVar t (← asAddr (a.tmps.getD b undef)):Sem Value)).run P w = .ok cv w ∧ R3 h hd s.blk cv v:=by
       cases x with
       | tmp t =>
        simp only [QG,Option.some.injEq] at hy
        subst hy
        simp only [B3,Option.some.injEq] at hv
        subst hv
        exact ⟨_,rfl,r.frame t⟩
       | cell b t =>
        simp only [QG] at hy
        split at hy
        ·rename_i ag i hag hi
         cases hy
         simp only [B3] at hv
         split at hv
         ·rename_i v' wr hload
          cases hv
          have:=aBl (P:=P) (C:=fun _ _=>none) (site:=0) (x:=.t b) (xv:=a.tmps.getD b undef) r hag hi (r.frame b) (v:=v) (wr:=wr) (by simpa [b7,bH] using hload)
          obtain ⟨_,cv,q1,q2⟩:=this
          refine ⟨cv,?_,q2⟩
          cases hp:a.tmps.getD b undef <;> rw [hp] at q1 <;> first | (simp [Instr.loadAt,Instr.sureAddr] at q1; done) | skip
          rename_i ao
          cases ao with
          | none=>simp [Instr.loadAt,Instr.sureAddr] at q1
          | some ad =>
           have hp' : a.tmps[b]?.getD undef = .pointer (some ad):=by simpa using hp
           simpa [Instr.loadAt,Instr.sureAddr,asAddr,hp'] using q1
         ·cases hv
        ·cases hy
      obtain ⟨cv,q1,q2⟩:=hone
      refine ⟨cv :: cvs,?_,by simp [g2],fun j z hz=>?_⟩
      ·rw [List.mapM_cons]
       simp only [Sem.run_bind,q1,Result.andThen_ok,g1,Sem.run_pure]
      ·cases j with
       | zero=>simp at hz; subst hz; simpa using q2
       | succ j=>simpa using g3 j z (by simpa using hz)
theorem aQ.toF {base:dO} {w:World} {h:Hp} {v:Value} {x:D} (r:aQ h v x):J0 base w h v x:=by
 cases x <;> first | exact r | (cases r; done)
theorem aAP {bl:Nat->Option aH} {vs:List V} {x:D} (e:MG bl (.tup vs) = some x) {j:Nat} {z:V} (hz:vs[j]? = some z):∃ y,aDv bl (M1 bl (.tup vs)) z = some y:=by
 unfold MG at e
 split at e
 ·split at e
  ·rename_i y es rs hy hes hrs
   simp only [toR,Option.map_eq_some_iff] at hy
   obtain ⟨ds,hm,_⟩:=hy
   obtain ⟨y,_,h2⟩:=(bF hm).2 j z hz
   exact ⟨y,h2⟩
  ·cases e
 ·cases e
theorem MS:∀ {l:List Nat} {x n:Nat},aEV l x = some n->l[n]? = some x
 | [],x,n,e=>by cases e
 | a :: l,x,n,e=>by
  simp only [aEV] at e
  split at e
  ·rename_i hx; cases e; simp [hx]
  ·rw [Option.map_eq_some_iff] at e
   obtain ⟨m,h1,rfl⟩:=e
   simpa using MS h1
theorem M3:∀ {l:List Nat} {x:Nat},inN l x = false->∀ n:Nat,l[n]? ≠ some x
 | [],x,_,n=>by simp
 | a :: l,x,e,n=>by
  simp only [inN] at e
  split at e
  ·cases e
  ·rename_i hx
   cases n with
   | zero=>simpa using hx
   | succ n=>simpa using M3 e n
theorem PY:∀ {l:List Nat},TZ l = true->∀ {n m x:Nat},l[n]? = some x->l[m]? = some x->n = m
 | [],_,n,m,x,h1,h2=>by simp at h1
 | a :: l,e,n,m,x,h1,h2=>by
  simp only [TZ] at e
  split at e
  ·cases e
  ·rename_i hx
   have hx:inN l a = false:=by simpa using hx
   cases n with
   | zero=>cases m with
    | zero=>rfl
    | succ m=>simp at h1 h2; subst h1; exact absurd h2 (M3 hx m)
   | succ n=>cases m with
    | zero=>simp at h1 h2; subst h2; exact absurd h1 (M3 hx n)
    | succ m=>simp at h1 h2; rw [PY e h1 h2]
theorem aEq {site n m:Nat} (e:CW site n = CW site m):n = m:=by unfold CW at e; omega
theorem aBL (site n:Nat):(CW site n - site) / 100000 - 1 = n:=by
 unfold CW
 rw [Nat.add_sub_cancel_left,Nat.mul_div_cancel_left _ (by decide)]
 omega
theorem PT (site:Nat):∀ (es:List (Nat × Nat)) (rs:List (List (List D))) (k n:Nat) (e size:Nat) (rows:List (List D)),es[n]? = some (e,size)->rs[n]? = some rows->lk (gW site k es rs) none (CW site (k + n)) = some (BO e size rows)
 | [],rs,k,n,e,size,rows,h1,h2=>by simp at h1
 | p :: es,[],k,n,e,size,rows,h1,h2=>by simp at h2
 | (e',s') :: es,r :: rs,k,n,e,size,rows,h1,h2=>by
  simp only [gW,lk]
  cases n with
  | zero=>simp at h1 h2; simp [h1,h2]
  | succ n =>
   rw [if_neg (fun q=>by have:=aEq q; omega),show k + (n + 1) = (k + 1) + n by omega]
   exact PT site es rs (k + 1) n e size rows (by simpa using h1) (by simpa using h2)
theorem KC (site:Nat):∀ (es:List (Nat × Nat)) (rs:List (List (List D))) (k id:Nat) (b:aH),lk (gW site k es rs) none id = some b->∃ n e size rows,id = CW site (k + n) ∧ es[n]? = some (e,size) ∧ rs[n]? = some rows ∧ b = BO e size rows
 | [],rs,k,id,b,h=>by simp [gW,lk] at h
 | p :: es,[],k,id,b,h=>by simp [gW,lk] at h
 | (e',s') :: es,r :: rs,k,id,b,h=>by
  simp only [gW,lk] at h
  split at h
  ·rename_i hi
   cases h
   exact ⟨0,e',s',r,hi,rfl,rfl,rfl⟩
  ·obtain ⟨n,e,size,rows,h1,h2,h3,h4⟩:=KC site es rs (k + 1) id b h
   exact ⟨n + 1,e,size,rows,by rw [h1,show k + 1 + n = k + (n + 1) by omega],by simpa using h2,by simpa using h3,h4⟩
theorem aA2:∀ m:List (Int × ML),aLj (aKk m) = m
 | []=>rfl
 | (k,v) :: r=>by
  have:=aA2 r
  unfold aLj aKk at *
  rw [List.map_cons,List.map_cons,this]
  cases v <;> rfl
def DJ:aH->Option aH
 | .rows _ e size rows=>if size = 0 then none else some (.rows 0 e size rows)
 | .mp ek m=>some (.mp ek m)
 | _=>none
theorem S8 {bl:Nat->Option aH} {id e size:Nat} {rows:List (List D)} (h:aKj bl id = some (e,size)) (h2:aKO bl id = some rows):∃ b,bl id = some b ∧ DJ b = some (BO e size rows):=by
 unfold aKj at h
 unfold aKO at h2
 cases hb:bl id with
 | none=>rw [hb] at h; cases h
 | some b =>
  rw [hb] at h h2
  refine ⟨b,rfl,?_⟩
  cases b <;> simp only at h h2 <;> first | (cases h; done) | skip
  ·split at h
   ·cases h
   ·rename_i hs
    cases h
    cases h2
    simp only [DJ,BO,if_neg hs]
  ·cases h
   cases h2
   simp only [DJ,BO,if_true,aA2]
section
variable {nt:Nat} {w0:dO} {w:World} {h0 h:Hp} {fr:Nat->V} {bl:Nat->Option aH} {a:Act} {hd hd0:Nat->Value} {nb:Nat->Option aH} {ids:List Nat} {site:Nat}
theorem aBh (r:Rl nt w0 h0 fr bl a w h hd) (hnew:∀ n id b b',ids[n]? = some id->bl id = some b->DJ b = some b'->nb (CW site n) = some b') (hhd:∀ n id,ids[n]? = some id->hd0 (CW site n) = hd id)
  {u:Value} {z:V} (hu:R1 h hd bl u z) {d:D} (e:aBH bl ids z = some d):R1 h hd0 nb u (VH site d) ∧ d.atom = true:=by
 cases z with
 | d x =>
  cases e
  obtain ⟨g1,g2⟩:=hu
  refine ⟨?_,g1⟩
  cases d <;> first | exact ⟨g1,g2⟩ | (cases g2; done)
 | nil =>
  cases e
  exact ⟨⟨rfl,by rw [show u = _ from hu]; exact .sl0 none 0 (fun _=>rfl)⟩,rfl⟩
 | own id ver =>
  obtain ⟨b,c,hb,hc,hle,h1,he⟩:=hu
  simp only [aBH,hb] at e
  cases b with
  | rows v e' s rows =>
   simp only at e
   split at e
   ·rename_i hv
    rw [Option.map_eq_some_iff] at e
    obtain ⟨n,hn,rfl⟩:=e
    have hi:=MS hn
    have hs:¬ s = 0:=by have:=(r.blk id _ hb).1; omega
    refine ⟨⟨_,0,hnew n id _ (.rows 0 e' s rows) hi hb (by simp only [DJ,if_neg hs]),rfl,Nat.le_refl _,h1,fun _=>?_⟩,rfl⟩
    rw [hhd n id hi]
    exact he (by simp only [aH.ver?,Option.some.injEq] at hc; omega)
   ·cases e
  | froz v rows =>
   simp only at e
   split at e
   ·rename_i hv
    cases e
    refine ⟨⟨rfl,?_⟩,rfl⟩
    rw [he (by simp only [aH.ver?,Option.some.injEq] at hc; omega)]
    exact r.blk id _ hb
   ·cases e
  | _=>cases e
 | mp id =>
  obtain ⟨⟨b,hb,hbx⟩,rfl,g,hg⟩:=hu
  simp only [aBH,hb] at e
  cases b with
  | mp ek m =>
   simp only at e
   rw [Option.map_eq_some_iff] at e
   obtain ⟨n,hn,rfl⟩:=e
   have hi:=MS hn
   exact ⟨⟨⟨_,hnew n id _ (.mp ek m) hi hb rfl,rfl⟩,(hhd n id hi).symm,g,(hhd n id hi).trans hg⟩,rfl⟩
  | fmp ek m =>
   simp only [Option.some.injEq] at e
   subst e
   exact ⟨⟨rfl,r.blk id _ hb⟩,rfl⟩
  | _=>cases e
 | _=>cases e
theorem aBv (r:Rl nt w0 h0 fr bl a w h hd) (hnew:∀ n id b b',ids[n]? = some id->bl id = some b->DJ b = some b'->nb (CW site n) = some b') (hhd:∀ n id,ids[n]? = some id->hd0 (CW site n) = hd id)
  {u:Value} {z:V} (hu:R2 h hd bl u z) {d:D} (e:aDv bl ids z = some d):R2 h hd0 nb u (TC site d) ∧ d.noTup = true:=by
 have one:R1 h hd bl u z->aBH bl ids z = some d->R2 h hd0 nb u (TC site d) ∧ d.noTup = true:=fun q1 q2=>by
  obtain ⟨g1,g2⟩:=aBh r hnew hhd q1 q2
  cases d <;> first | (cases g2; done) | exact ⟨R2.of1 g1,rfl⟩
 cases z with
 | agg cs =>
  obtain ⟨arr,rfl,hl,hc⟩:=hu
  simp only [aDv,Option.map_eq_some_iff] at e
  obtain ⟨ds,hm,rfl⟩:=e
  obtain ⟨m1,m2⟩:=bF hm
  refine ⟨⟨arr,rfl,by simp; omega,fun j x hx=>?_⟩,rfl⟩
  rw [List.getElem?_map,Option.map_eq_some_iff] at hx
  obtain ⟨y,hy,rfl⟩:=hx
  obtain ⟨z,z1,z2⟩:=bM hm hy
  exact ⟨(aBh r hnew hhd (hc j z z1).1 z2).1,(hc j z z1).2⟩
 | _=>exact one hu e
theorem aLt (r:Rl nt w0 h0 fr bl a w h hd) (hnew:∀ n id b b',ids[n]? = some id->bl id = some b->DJ b = some b'->nb (CW site n) = some b') (hhd:∀ n id,ids[n]? = some id->hd0 (CW site n) = hd id)
  {u:Value} {z:V} (hu:R3 h hd bl u z) {d:D} (e:toR bl ids z = some d):R3 h hd0 nb u (thaw site d):=by
 have one:R2 h hd bl u z->aDv bl ids z = some d->R3 h hd0 nb u (thaw site d):=fun q1 q2=>by
  obtain ⟨g1,g2⟩:=aBv r hnew hhd q1 q2
  cases d <;> first | (cases g2; done) | exact R3.of2 g1
 cases z with
 | tup vs =>
  obtain ⟨arr,rfl,hl,hc⟩:=hu
  simp only [toR,Option.map_eq_some_iff] at e
  obtain ⟨ds,hm,rfl⟩:=e
  obtain ⟨m1,m2⟩:=bF hm
  refine ⟨arr,rfl,by simp; omega,fun j x hx=>?_⟩
  rw [List.getElem?_map,Option.map_eq_some_iff] at hx
  obtain ⟨y,hy,rfl⟩:=hx
  obtain ⟨z,z1,z2⟩:=bM hm hy
  exact (aBv r hnew hhd (hc j z z1) z2).1
 | _=>exact one hu e
theorem X8 (r:Rl nt w0 h0 fr bl a w h hd) {cv:Value} {v:V} (hv:R3 h hd bl cv v) {x:D} (e:MG bl v = some x):J0 w0 w h cv x:=by
 unfold MG at e
 split at e
 ·rename_i hnd
  split at e
  ·rename_i y es rs hy hes hrs
   cases e
   intro site
   generalize hids:M1 bl v = ids at hnd hy hes hrs
   have hhd:∀ n id,ids[n]? = some id->(fun i=>hd (ids.getD ((i - site) / 100000 - 1) 0)) (CW site n) = hd id:=fun n id hn=>by
    simp only [aBL,List.getD_eq_getElem?_getD,hn,Option.getD_some]
   have hE:=bF hes
   have hR:=bF hrs
   have hnew:∀ n id b b',ids[n]? = some id->bl id = some b->DJ b = some b'->QN site es rs (CW site n) = some b':=fun n id b b' hn hb hg=>by
    obtain ⟨⟨e1,s1⟩,g1,g2⟩:=hE.2 n id hn
    obtain ⟨rows1,g3,g4⟩:=hR.2 n id hn
    obtain ⟨b0,q1,q2⟩:=S8 g2 g4
    rw [hb] at q1
    cases q1
    rw [hg] at q2
    cases q2
    have:=PT site es rs 0 n e1 s1 rows1 g1 g3
    rw [Nat.zero_add] at this
    exact this
   have hback:∀ i b,QN site es rs i = some b->∃ n id b0,i = CW site n ∧ ids[n]? = some id ∧ bl id = some b0 ∧ DJ b0 = some b:=fun i b hb=>by
    obtain ⟨n,e,size,rows,h1,h2,h3,h4⟩:=KC site es rs 0 i b hb
    obtain ⟨id,g1,g2⟩:=bM hes h2
    obtain ⟨y2,g4,g5⟩:=hR.2 n id g1
    rw [h3] at g4
    cases g4
    obtain ⟨b0,q1,q2⟩:=S8 g2 g5
    exact ⟨n,id,b0,by rw [h1,Nat.zero_add],g1,q1,by rw [q2,h4]⟩
   have hlv:∀ b0 b:aH,DJ b0 = some b->b0.live = true:=fun b0 b hg=>by
    cases b0 <;> first | rfl | (simp [DJ] at hg)
   refine ⟨fun i=>hd (ids.getD ((i - site) / 100000 - 1) 0),aLt r hnew hhd hv hy,fun i b hb=>?_,fun i j bi bj g hi hj gi gj=>?_⟩
   ·obtain ⟨n,id,b0,rfl,h2,h3,h4⟩:=hback i b hb
    have hb':=r.blk id _ h3
    have hh:=hhd n id h2
    cases b0 with
    | rows ver e size rows =>
     simp only [DJ] at h4
     split at h4
     ·cases h4
     ·cases h4
      obtain ⟨k1,k2,⟨xs,k3,k4⟩,k5⟩:=hb'
      exact ⟨k1,k2,⟨xs,by rw [hh]; exact k3,k4⟩,by rw [hh]; exact k5⟩
    | mp ek m =>
     simp only [DJ,Option.some.injEq] at h4
     subst h4
     obtain ⟨g,k1,k2⟩:=hb'
     exact ⟨g,hh.trans k1,k2⟩
    | _=>cases h4
   ·obtain ⟨n,id,b0,rfl,h2,h3,h4⟩:=hback i bi hi
    obtain ⟨m,id',b0',rfl,h2',h3',h4'⟩:=hback j bj hj
    rw [hhd n id h2] at gi
    rw [hhd m id' h2'] at gj
    have:=r.sep id id' _ _ g h3 h3' (hlv _ _ h4) (hlv _ _ h4') gi gj
    subst this
    rw [PY hnd h2 h2']
  ·cases e
 ·cases e
end
def aD (P:Program) (nt:Nat) (c:Code) (sc:aF):Prop:=∀ (C:Nat->List D->Option D),tU P C->∀ (n:Nat) (w0:dO) (h0:Hp) (s s' : St) (ex:Ex) (a:Act) (w:World) (h:Hp) (hd:Nat->Value) (Q:Exit->Act->World->Prop),
 (∀ t,w0.F t = none)->bA C n sc s = some (ex,s')->Rl nt w0 h0 s.get s.blk a w h hd->(∀ a' w' h' hd',Rl nt w0 h0 s'.get s'.blk a' w' h' hd'->Q ex.go a' w')->c.wp P Q a w
def PW (P:Program) (fn:Func) (sf:dH):Prop :=
 fn.params.size + fn.nfree = sf.np ∧ fn.name ≠ "runtime.NumGoroutine" ∧ fn.ntmps = sf.nt ∧ sf.np <= sf.nt ∧ aJ (QG P) fn.results.toList = some sf.results ∧ ∃ c,fn.body = some c ∧ (P.follows .mixedOrders = true->aD P sf.nt c sf.body) ∧ (sf.lend = true->wY P sf.nt c = some sf.body.bare)
theorem aD.low {nt:Nat} {c:Code} {sc:aF} (hm:P.follows .mixedOrders = true) (h:wY P nt c = some sc.bare):aD P nt c sc :=
 fun C hC n w0 h0 s s' ex a w h' hd Q hF he r hQ=>aBf hC hm n sc c s s' ex a w h' hd Q (yX.none hF c) h he r hQ
theorem lH.g {fn:Func} {sf:dH} (l:lH P fn sf):PW P fn sf:=by
 obtain ⟨l1,l2,l3,l4,l5,c,l6,l7⟩:=l
 exact ⟨l1,l2,l3,l4,l5,c,l6,fun hm=>aD.low hm l7,fun _=>l7⟩
theorem aD.seq {nt:Nat} {c d:Code} {x y:aF} (h1:aD P nt c x) (h2:aD P nt d y):aD P nt (.seq c d) (.seq x y):=by
 intro C hC n w0 h0 s s' ex a w h hd Q hF he r hQ
 refine wp_seq ?_
 simp only [bA] at he
 split at he
 ·rename_i s1 he1
  exact h1 C hC n w0 h0 s s1 .normal a w h hd _ hF he1 r fun a' w' h' hd' r'=>h2 C hC n w0 h0 s1 s' ex a' w' h' hd' Q hF he r' hQ
 ·rename_i hne
  refine h1 C hC n w0 h0 s s' ex a w h hd _ hF he r fun a' w' h' hd' r'=>?_
  cases ex with
  | normal=>exact absurd he (hne _)
  | exit id=>exact hQ _ _ _ _ r'
  | ret=>exact hQ _ _ _ _ r'
theorem aD.pre {nt:Nat} {c:Code} {x:aF} (m:xN) (h1:aD P nt c x):aD P nt c (.pre m x):=by
 intro C hC n w0 h0 s s' ex a w h hd Q hF he r hQ
 simp only [bA] at he
 obtain ⟨h',hd',r'⟩:=OW r m
 exact h1 C hC n w0 h0 _ s' ex a w h' hd' Q hF he r' hQ
theorem aD.post {nt:Nat} {c:Code} {x:aF} (m:xN) (h1:aD P nt c x):aD P nt c (.post x m):=by
 intro C hC n w0 h0 s s' ex a w h hd Q hF he r hQ
 simp only [bA] at he
 split at he
 ·rename_i s1 he1
  cases he
  refine h1 C hC n w0 h0 s s1 .normal a w h hd Q hF he1 r fun a' w' h' hd' r'=>?_
  obtain ⟨h'',hd'',r''⟩:=OW r' m
  exact hQ _ _ _ _ r''
 ·rename_i hne
  exact h1 C hC n w0 h0 s s' ex a w h hd Q hF he r hQ
theorem aE8 {nt t:Nat} {w0:dO} (hF:∀ d,d ≠ t->w0.F d = none):∀ (sc:aF) (c:Code),wY P nt c = some sc.bare->D1 t sc = true->yX w0 c:=by
 intro sc
 induction sc with
 | region ops draw =>
  intro c hl hn
  cases c <;> simp only [wY,aF.bare] at hl
  case region id rops dr =>
   have key:aJ (lA P nt rops) rops.toList = some (ops.map aM.bare):=by
    split at hl
    ·cases hl
    ·rename_i l hlow
     rw [hlow]
     split at hl
     ·split at hl
      ·cases hl; rfl
      ·cases hl
     ·cases hl; rfl
   intro o ho d hd
   obtain ⟨i,hi⟩:=List.mem_iff_getElem?.1 ho
   obtain ⟨so,q1,q2⟩:=(bF key).2 i o hi
   rw [List.getElem?_map,Option.map_eq_some_iff] at q1
   obtain ⟨so',q3,rfl⟩:=q1
   have hdst:so'.dst = o.dst:=by
    unfold lA at q2
    split at q2
    ·split at q2
     ·have:=congrArg (fun z=>z.map aM.dst) q2; simpa [aM.bare] using this.symm
     ·split at q2
      ·have:=congrArg (fun z=>z.map aM.dst) q2; simpa [aM.bare] using this.symm
      ·cases q2
    ·cases q2
   have:=List.all_eq_true.1 hn so' (List.mem_of_getElem? q3)
   rw [hdst,hd] at this
   exact hF d (by simpa using this)
  case seq=>split at hl <;> cases hl
  case cond=>split at hl <;> cases hl
  case block=>rw [Option.map_eq_some_iff] at hl; obtain ⟨_,_,e⟩:=hl; cases e
  case loop=>rw [Option.map_eq_some_iff] at hl; obtain ⟨_,_,e⟩:=hl; cases e
  all_goals cases hl
 | seq x y ihx ihy =>
  intro c hl hn
  simp only [D1,Bool.and_eq_true] at hn
  cases c <;> simp only [wY,aF.bare] at hl
  case region=>split at hl <;> first | (cases hl; done) | skip; split at hl <;> first | (cases hl; done) | skip; split at hl <;> cases hl
  case seq ca cb =>
   split at hl
   ·rename_i l1 l2 h1 h2
    cases hl
    exact ⟨ihx ca h1 hn.1,ihy cb h2 hn.2⟩
   ·cases hl
  case cond=>split at hl <;> cases hl
  case block=>rw [Option.map_eq_some_iff] at hl; obtain ⟨_,_,e⟩:=hl; cases e
  case loop=>rw [Option.map_eq_some_iff] at hl; obtain ⟨_,_,e⟩:=hl; cases e
  all_goals cases hl
 | cond q x y ihx ihy =>
  intro c hl hn
  simp only [D1,Bool.and_eq_true] at hn
  cases c <;> simp only [wY,aF.bare] at hl
  case region=>split at hl <;> first | (cases hl; done) | skip; split at hl <;> first | (cases hl; done) | skip; split at hl <;> cases hl
  case seq=>split at hl <;> cases hl
  case cond co ca cb =>
   split at hl
   ·rename_i l0 l1 l2 h1 h2 h3
    cases hl
    exact ⟨ihx ca h2 hn.1,ihy cb h3 hn.2⟩
   ·cases hl
  case block=>rw [Option.map_eq_some_iff] at hl; obtain ⟨_,_,e⟩:=hl; cases e
  case loop=>rw [Option.map_eq_some_iff] at hl; obtain ⟨_,_,e⟩:=hl; cases e
  all_goals cases hl
 | block id x ih =>
  intro c hl hn
  cases c <;> simp only [wY,aF.bare] at hl
  case region=>split at hl <;> first | (cases hl; done) | skip; split at hl <;> first | (cases hl; done) | skip; split at hl <;> cases hl
  case seq=>split at hl <;> cases hl
  case cond=>split at hl <;> cases hl
  case block id' ca=>rw [Option.map_eq_some_iff] at hl; obtain ⟨l1,h1,e⟩:=hl; cases e; exact ih ca h1 hn
  case loop=>rw [Option.map_eq_some_iff] at hl; obtain ⟨_,_,e⟩:=hl; cases e
  all_goals cases hl
 | loop x ih =>
  intro c hl hn
  cases c <;> simp only [wY,aF.bare] at hl
  case region=>split at hl <;> first | (cases hl; done) | skip; split at hl <;> first | (cases hl; done) | skip; split at hl <;> cases hl
  case seq=>split at hl <;> cases hl
  case cond=>split at hl <;> cases hl
  case block=>rw [Option.map_eq_some_iff] at hl; obtain ⟨_,_,e⟩:=hl; cases e
  case loop ca=>rw [Option.map_eq_some_iff] at hl; obtain ⟨l1,h1,e⟩:=hl; cases e; exact ih ca h1 hn
  all_goals cases hl
 | pre m x ih=>intro c hl hn; exact ih c hl hn
 | post x m ih=>intro c hl hn; exact ih c hl hn
 | _ =>
  intro c hl hn
  cases c <;> simp only [wY,aF.bare] at hl
  case region=>split at hl <;> first | (cases hl; done) | skip; split at hl <;> first | (cases hl; done) | skip; split at hl <;> cases hl
  case seq=>split at hl <;> cases hl
  case cond=>split at hl <;> cases hl
  case block=>rw [Option.map_eq_some_iff] at hl; obtain ⟨_,_,e⟩:=hl; cases e
  case loop=>rw [Option.map_eq_some_iff] at hl; obtain ⟨_,_,e⟩:=hl; cases e
  all_goals first | trivial | cases hl
section
variable {h:Hp} {hd:Nat->Value} {bl bl' : Nat->Option aH} {v:Value} {id:Nat} {cs:List V}
theorem R1.drop (ho:bl id = some (.outer cs)) (he:∀ i,i ≠ id->bl' i = bl i):∀ {x:V},R1 h hd bl v x->R1 h hd bl' v x:=by
 intro x r
 cases x with
 | ptr i off =>
  obtain ⟨⟨b,hb,hx⟩,q⟩:=r
  have:i ≠ id:=fun e=>by rw [e,ho] at hb; cases hb; cases hx
  exact ⟨⟨b,by rw [he i this]; exact hb,hx⟩,q⟩
 | own i ver =>
  obtain ⟨b,c,hb,hc,q⟩:=r
  have:i ≠ id:=fun e=>by rw [e,ho] at hb; cases hb; cases hc
  exact ⟨b,c,by rw [he i this]; exact hb,hc,q⟩
 | orow i ver j off =>
  obtain ⟨b,c,hb,hc,q⟩:=r
  have:i ≠ id:=fun e=>by rw [e,ho] at hb; cases hb; cases hc
  exact ⟨b,c,by rw [he i this]; exact hb,hc,q⟩
 | mp i =>
  obtain ⟨⟨b,hb,hx⟩,q⟩:=r
  have:i ≠ id:=fun e=>by rw [e,ho] at hb; cases hb; cases hx
  exact ⟨⟨b,by rw [he i this]; exact hb,hx⟩,q⟩
 | any=>exact r
 | d x=>exact r
 | nil=>exact r
 | agg cs=>exact r
 | tup cs=>exact r
 | fn f caps =>
  obtain ⟨arr,e,hs,hr⟩:=r
  refine ⟨arr,e,hs,fun j x hx=>?_⟩
  have hxr:=hr j x hx
  cases x with
  | ptr i off =>
   obtain ⟨⟨b,hb,hx⟩,q⟩:=hxr
   have:i ≠ id:=fun e=>by rw [e,ho] at hb; cases hb; cases hx
   exact ⟨⟨b,by rw [he i this]; exact hb,hx⟩,q⟩
  | _=>exact hxr.elim
theorem R2.drop (ho:bl id = some (.outer cs)) (he:∀ i,i ≠ id->bl' i = bl i):∀ {x:V},R2 h hd bl v x->R2 h hd bl' v x:=by
 intro x r
 cases x with
 | agg cs =>
  obtain ⟨arr,e,hs,hr⟩:=r
  exact ⟨arr,e,hs,fun j x hx=>⟨(hr j x hx).1.drop ho he,(hr j x hx).2⟩⟩
 | _=>exact R2.of1 (R1.drop ho he r)
theorem R3.drop (ho:bl id = some (.outer cs)) (he:∀ i,i ≠ id->bl' i = bl i):∀ {x:V},R3 h hd bl v x->R3 h hd bl' v x:=by
 intro x r
 cases x with
 | tup cs =>
  obtain ⟨arr,e,hs,hr⟩:=r
  exact ⟨arr,e,hs,fun j x hx=>(hr j x hx).drop ho he⟩
 | _=>exact R3.of2 (R2.drop ho he r)
theorem BR.drop {b0 b1:dO} {w:World} {i:Nat} {b:aH} (hown:∀ g,b1.own g->b0.own g) (hO:b0.O i = b1.O i) (ho:bl id = some (.outer cs)) (he:∀ i,i ≠ id->bl' i = bl i) (r:BR b1 w h hd bl i b):BR b0 w h hd bl' i b:=by
 cases b with
 | box cs =>
  obtain ⟨g,arr,e,h1,h2,h3,h4,h5,h6⟩:=r
  exact ⟨g,arr,e,h1,hown g h2,h3,h4,fun j x hx=>⟨(h5 j x hx).1.drop ho he,(h5 j x hx).2⟩,h6⟩
 | rows ver e size rows =>
  obtain ⟨h1,h2,h3,h4⟩:=r
  exact ⟨h1,h2,h3,fun g hg=>⟨(h4 g hg).1,hown g (h4 g hg).2⟩⟩
 | froz ver rows=>exact r
 | fbox cs=>exact r
 | mp ek m =>
  obtain ⟨g,h1,h2,h3⟩:=r
  exact ⟨g,h1,hown g h2,h3⟩
 | fmp ek m=>exact r
 | outer cs =>
  intro j x hx
  rw [hO]
  exact (r j x hx).drop ho he
end
theorem S2:∀ (l:List V) (i t:Nat),lk (uH i l) .any t = if i <= t then l.getD (t - i) .any else .any
 | [],i,t=>by simp [uH,lk]
 | d :: l,i,t=>by
  simp only [uH,lk,S2 l (i + 1) t]
  by_cases e:t = i
  ·subst e; simp
  ·rw [if_neg e]
   by_cases h:i + 1 <= t
   ·rw [if_pos h,if_pos (by omega)]
    have:t - i = (t - (i + 1)) + 1:=by omega
    rw [this,List.getD_cons_succ]
   ·rw [if_neg h,if_neg (by omega)]
theorem aEp {C:Nat->List D->Option D} (hC:tU P C) {n nt ix:Nat} {rops:Array Oper} {L:List aM} {dst:Option Nat} {f:Nat} {lop:gG} {ws:List V} {body:aF} {res:List uX} {id:Nat} {slots:List Nat} {fn:Func} {c' : Code}
  (hlow:aJ (lA P nt rops) rops.toList = some L) (hLi:L[ix]? = some ⟨dst,lop,none,dst.getD 0⟩) (hfn:P.funcs[f]? = some fn) (l6:fn.body = some c') (l3:ws.length <= fn.ntmps) (l5:aJ (QG P) fn.results.toList = some res)
  (hb:aD P fn.ntmps c' body) {w0:dO} {h0:Hp} {s1 s2 s3 s' : St} {ex' : Ex} {a1:Act} {w1:World} {h1:Hp} {hd1:Nat->Value} {Q:Exit->Act->World->Prop} {K:Act->World->Prop}
  (hF:∀ t,w0.F t = none) (r1:Rl nt w0 h0 s1.get s1.blk a1 w1 h1 hd1)
  (hs2:EG ws id slots s1 = some s2) (hev:bA C n body s2 = some (ex',s3)) (hout:rC dst res id slots s3 = some s') (hex:ex' = .normal ∨ ex' = .ret)
  (hop:∀ (o:Oper) (a1:Act) (w1:World) (h1:Hp) (hd1:Nat->Value),uJ P o = lop->Rl nt w0 h0 s1.get s1.blk a1 w1 h1 hd1->∃ vs:Array Value,vs.size = ws.length ∧ (∀ (j:Nat) (y:V),ws[j]? = some y->R3 h1 hd1 s1.blk (vs.getD j undef) y) ∧ (execOp a1.eval o).run P w1 = .ok (.enter f vs) w1)
  (hQ:∀ a' w' h' hd',Rl nt w0 h0 s'.get s'.blk a' w' h' hd'->K a' w'):wpOp P rops Q ix K a1 w1:=by
 have hOF:O6 w0 rops:=fun _ _ d _=>hF d
 obtain ⟨o,q1,q2⟩:=bM hlow hLi
 have ho:rops[ix]? = some o:=by simpa using q1
 obtain ⟨g1,g2,g3,g4,g5⟩:=U7 r1 q2 (hOF o (by have:=Array.mem_of_getElem? ho; simpa using this))
 replace g2:dst = o.dst:=g2
 unfold wpOp
 rw [ho]
 simp only
 rw [if_pos (g4 rfl)]
 refine .inl ?_
 obtain ⟨vs,a1s,a2,hexec⟩:=hop o a1 w1 h1 hd1 g1.symm r1
 unfold Oper.wp
 rw [hexec]
 simp only [Oper.upon]
 -- inside
 have hs2' : s1.blk id = none ∧ s2 = ⟨uH 0 ws,(id,some (.outer (slots.map s1.get))) :: s1.bl⟩:=by
  unfold EG at hs2
  split at hs2
  ·rename_i q
   cases hs2
   exact ⟨by simpa using q,rfl⟩
  ·cases hs2
 obtain ⟨hnone,rfl⟩:=hs2'
 have hget:∀ i,i < vs.size->(vs ++ Array.replicate (fn.ntmps - vs.size) undef).getD i undef = vs.getD i undef:=fun i hi=>by
  simp only [Array.getD_eq_getD_getElem?]
  rw [Array.getElem?_append_left hi]
 have hbl:∀ i,(⟨uH 0 ws,(id,some (.outer (slots.map s1.get))) :: s1.bl⟩ : St).blk i = if i = id then some (.outer (slots.map s1.get)) else s1.blk i:=fun i=>rfl
 have hk:Kp hd1 hd1 s1.blk (⟨uH 0 ws,(id,some (.outer (slots.map s1.get))) :: s1.bl⟩ : St).blk:=by
  intro i b hb
  have:i ≠ id:=fun e=>by rw [e,hnone] at hb; cases hb
  exact ⟨b,by rw [hbl,if_neg this]; exact hb,xY.refl _ _ _⟩
 let w0' : dO:={ w0 with F:=fun _=>none,O:=fun i j=>if i = id then a1.tmps.getD (slots.getD j 0) undef else w0.O i j }
 have r2:Rl fn.ntmps w0' h0 (⟨uH 0 ws,(id,some (.outer (slots.map s1.get))) :: s1.bl⟩ : St).get (⟨uH 0 ws,(id,some (.outer (slots.map s1.get))) :: s1.bl⟩ : St).blk { tmps:=vs ++ Array.replicate (fn.ntmps - vs.size) undef,defers:=[] } w1 h1 hd1:={
  tmps:=by simp only [Array.size_append,Array.size_replicate]; omega
  defers:=rfl
  fixed:=fun i v hF=>by cases hF
  below:=⟨r1.below.os,r1.below.tape,r1.below.output,r1.below.size,r1.below.block⟩
  hle:=r1.hle
  h0le:=r1.h0le
  hbase:=r1.hbase
  frame:=fun t=>by
   have e1:(⟨uH 0 ws,(id,some (.outer (slots.map s1.get))) :: s1.bl⟩ : St).get t = ws.getD t .any:=by
    have:=S2 ws 0 t
    simpa [St.get] using this
   rw [e1]
   cases hy:ws[t]? with
   | none =>
    have:ws.getD t .any = .any:=by simp [List.getD_eq_getElem?_getD,hy]
    rw [this]
    trivial
   | some y =>
    have:ws.getD t .any = y:=by simp [List.getD_eq_getElem?_getD,hy]
    rw [this]
    have hlt:t < vs.size:=by rw [a1s]; exact (List.getElem?_eq_some_iff.1 hy).1
    show R3 _ _ _ (Array.getD (vs ++ Array.replicate (fn.ntmps - vs.size) undef) t undef) _
    rw [hget t hlt]
    exact (a2 t y hy).keep (Hp.le.refl _) hk
  blk:=fun i b hb=>by
   rw [hbl] at hb
   split at hb
   ·rename_i e
    subst e
    cases hb
    intro j x hx
    rw [List.getElem?_map,Option.map_eq_some_iff] at hx
    obtain ⟨t,ht,rfl⟩:=hx
    have:w0'.O i j = a1.tmps.getD t undef:=by
     show (if i = i then a1.tmps.getD (slots.getD j 0) undef else w0.O i j) = _
     rw [if_pos rfl,List.getD_eq_getElem?_getD,ht]
     rfl
    rw [this]
    exact (r1.frame t).keep (Hp.le.refl _) hk
   ·rename_i e
    exact (BR.base (b0:=w0') (b1:=w0) (fun g q=>q) (.inr (by funext j; exact if_neg e)) (r1.blk i b hb)).keep (Hp.le.refl _) hk rfl fun _ _ _=>⟨rfl,fun q=>q⟩
  sep:=fun i j bi bj g hi hj li lj gi gj=>by
   rw [hbl] at hi hj
   split at hi
   ·cases hi; cases li
   ·split at hj
    ·cases hj; cases lj
    ·exact r1.sep i j bi bj g hi hj li lj gi gj }
 have hcalls:Calls P f vs w1 fun en w'=>∃ cv,en = .returned cv ∧ ∃ h' hd',Rl nt w0 h0 s'.get s'.blk (a1.put o.dst cv) w' h' hd':=by
  refine calls_of_wp hfn l6 ?_
  refine hb C hC n w0' h0 _ s3 ex' _ w1 h1 hd1 _ (fun _=>rfl) hev r2 fun a' w' h' hd' r'=>?_
  have back:∀ (cv:Value) (v:V) (cs:List V),s3.blk id = some (.outer cs)->R3 h' hd' s3.blk cv v->s' = ⟨RP dst v ++ slots.zip cs,(id,none) :: s3.bl⟩->Rl nt w0 h0 s'.get s'.blk (a1.put o.dst cv) w' h' hd':=by
   rintro cv v cs ho hv rfl
   have hb4:∀ i,(⟨RP dst v ++ slots.zip cs,(id,none) :: s3.bl⟩ : St).blk i = if i = id then none else s3.blk i:=fun i=>rfl
   have hne:∀ i,i ≠ id->(⟨RP dst v ++ slots.zip cs,(id,none) :: s3.bl⟩ : St).blk i = s3.blk i:=fun i e=>by rw [hb4,if_neg e]
   have hO:=r'.blk id _ ho
   have hzip:∀ t,R3 h' hd' s3.blk (a1.tmps.getD t undef) (lk (slots.zip cs) .any t):=by
    intro t
    rcases EU (slots.zip cs) .any t with e | ⟨p,hp,e1,e2⟩
    ·rw [e]; trivial
    ·obtain ⟨j,hj⟩:=List.mem_iff_getElem?.1 hp
     rw [List.getElem?_zip_eq_some] at hj
     have:=hO j p.2 hj.2
     have e3:w0'.O id j = a1.tmps.getD t undef:=by
      show (if id = id then a1.tmps.getD (slots.getD j 0) undef else w0.O id j) = _
      rw [if_pos rfl,List.getD_eq_getElem?_getD,hj.1,← e1]
      rfl
     rw [← e2,← e3]
     exact this
   exact {
    tmps:=by cases o.dst <;> simp [Act.put,r1.tmps]
    defers:=by cases o.dst <;> simp [Act.put,r1.defers]
    fixed:=fun t u hq=>by rw [hF t] at hq; cases hq
    below:=⟨r'.below.os,r'.below.tape,r'.below.output,r'.below.size,r'.below.block⟩
    hle:=r'.hle
    h0le:=r'.h0le
    hbase:=r'.hbase
    frame:=fun t=>by
     rw [K2 a1 o.dst cv t nt r1.tmps fun d e=>(g3 d e).1]
     refine R3.drop ho hne ?_
     rw [← g2]
     cases dst with
     | none=>rw [if_neg (by intro q; cases q)]; exact hzip t
     | some d =>
      show R3 h' hd' s3.blk _ (lk ((d,v) :: slots.zip cs) .any t)
      simp only [lk]
      by_cases e:t = d
      ·subst e
       rw [if_pos rfl,if_pos rfl]; exact hv
      ·rw [if_neg e,if_neg fun q=>e (Option.some.inj q).symm]; exact hzip t
    blk:=fun i b hb=>by
     rw [hb4] at hb
     split at hb
     ·cases hb
     ·rename_i e
      exact BR.drop (b0:=w0) (b1:=w0') (fun g q=>q) (by funext j; exact (if_neg e).symm) ho hne (r'.blk i b hb)
    sep:=fun i j bi bj g hi hj li lj gi gj=>by
     rw [hb4] at hi hj
     split at hi
     ·cases hi
     ·split at hj
      ·cases hj
      ·exact r'.sep i j bi bj g hi hj li lj gi gj }
  have key:a'.defers = [] ∧ ∃ v,(results fn a'.tmps).run P w' = .ok v w' ∧ ∃ cv,(Ending.returned v) = .returned cv ∧ ∃ h' hd',Rl nt w0 h0 s'.get s'.blk (a1.put o.dst cv) w' h' hd':=by
   refine ⟨r'.defers,?_⟩
   unfold rC at hout
   split at hout
   ·rename_i cs v ho hres
    obtain ⟨cvs,k1,k2,k3⟩:=vM r' fn.results.toList res [v] l5 hres
    match cvs,k2 with
    | [cv],_ =>
     have hv:R3 h' hd' s3.blk cv v:=by simpa using k3 0 v rfl
     have hrun:(results fn a'.tmps).run P w' = .ok cv w':=by
      unfold results
      rw [← Array.toArray_toList (xs:=fn.results),List.mapM_toArray]
      simp only [Sem.run_bind,Sem.run_map]
      erw [k1]
      simp
     exact ⟨cv,hrun,cv,rfl,h',hd',back cv v cs ho hv (Option.some.inj hout).symm⟩
   ·rename_i cs vs hne ho hres
    split at hout
    ·rename_i hall
     obtain ⟨cvs,k1,k2,k3⟩:=vM r' fn.results.toList res vs l5 hres
     have hne1:cvs.length ≠ 1:=by
      intro h1
      rw [k2] at h1
      match vs,h1 with
      | [v],_=>exact hne v rfl
     have hrun:(results fn a'.tmps).run P w' = .ok (.tuple cvs.toArray) w':=by
      unfold results
      rw [← Array.toArray_toList (xs:=fn.results),List.mapM_toArray]
      simp only [Sem.run_bind,Sem.run_map]
      erw [k1]
      simp [hne1]
     have hR:R3 h' hd' s3.blk (.tuple cvs.toArray) (.tup vs):=by
      refine ⟨cvs.toArray,rfl,by simpa using k2,fun j z hz=>?_⟩
      have h3:=k3 j z hz
      have e3:cvs.toArray.getD j undef = cvs.getD j undef:=by simp
      rw [e3]
      have hz':=List.all_eq_true.1 hall z (List.mem_of_getElem? hz)
      cases z <;> first | exact h3 | cases hz'
     exact ⟨_,hrun,_,rfl,h',hd',back _ _ cs ho hR (Option.some.inj hout).symm⟩
    ·cases hout
   ·cases hout
  rcases hex with rfl | rfl
  ·exact key
  ·exact key
 refine hcalls.mono ?_
 rintro en w' ⟨cv,rfl,h',hd',r'⟩
 exact hQ _ _ h' hd' r'
theorem aIM {C:Nat->List D->Option D} (hC:tU P C) {n nt:Nat} {rops:Array Oper} {ops:List aM} {dst:Option Nat} {f:Nat} {lop:gG} {ws:List V} {body:aF} {res:List uX} {id:Nat} {slots:List Nat} {fn:Func} {c' : Code} {ext:List aM}
  (hlow:aJ (lA P nt rops) rops.toList = some (ops.map aM.bare ++ ⟨dst,lop,none,dst.getD 0⟩ :: ext)) (hfn:P.funcs[f]? = some fn) (l6:fn.body = some c') (l3:ws.length <= fn.ntmps) (l5:aJ (QG P) fn.results.toList = some res)
  (hb:aD P fn.ntmps c' body) {w0:dO} {h0:Hp} {s s1 s2 s3 s' : St} {ex' : Ex} {a:Act} {w:World} {h:Hp} {hd:Nat->Value} {Q:Exit->Act->World->Prop} {rest:List Nat}
  (hF:∀ t,w0.F t = none) (r:Rl nt w0 h0 s.get s.blk a w h hd)
  (hs1:lG C ops s = some s1) (hs2:EG ws id slots s1 = some s2) (hev:bA C n body s2 = some (ex',s3)) (hout:rC dst res id slots s3 = some s') (hex:ex' = .normal ∨ ex' = .ret)
  (hop:∀ (o:Oper) (a1:Act) (w1:World) (h1:Hp) (hd1:Nat->Value),uJ P o = lop->Rl nt w0 h0 s1.get s1.blk a1 w1 h1 hd1->∃ vs:Array Value,vs.size = ws.length ∧ (∀ (j:Nat) (y:V),ws[j]? = some y->R3 h1 hd1 s1.blk (vs.getD j undef) y) ∧ (execOp a1.eval o).run P w1 = .ok (.enter f vs) w1)
  (hQ:∀ a' w' h' hd',Rl nt w0 h0 s'.get s'.blk a' w' h' hd'->wpOps P rops Q rest a' w'):wpOps P rops Q (List.range ops.length ++ ops.length :: rest) a w:=by
 have hOF:O6 w0 rops:=fun _ _ d _=>hF d
 obtain ⟨ps,hps⟩:=O4 hs1
 have hst:=nN ops (fun i=>ps.getD i ([],[])) (k:=0) (fun i=>by simp) (fun i _=>by simp) hps
 have e0:(List.range ops.length).map (0 + ·) = List.range ops.length:=by simp
 rw [e0] at hst
 refine TA hC hOF hlow _ (s':=s1.fn) ?_ _ s.fn a w h hd r hst
 intro a1 w1 h1 hd1 r1
 replace r1:Rl nt w0 h0 s1.get s1.blk a1 w1 h1 hd1:=r1
 rw [wpOps_cons]
 exact aEp hC hlow (by simp) hfn l6 l3 l5 hb hF r1 hs2 hev hout hex hop hQ
theorem aBW {C:Nat->List D->Option D} (hC:tU P C) {n nt nc:Nat} {rops:Array Oper} {ops:List aM} {dst:Option Nat} {f:Nat} {x:bS} {args:List bS} {body:aF} {res:List uX} {id:Nat} {slots:List Nat} {fn:Func} {c' : Code} {ext:List aM}
  (hlow:aJ (lA P nt rops) rops.toList = some (ops.map aM.bare ++ ⟨dst,.callv x args,none,dst.getD 0⟩ :: ext)) (hfn:P.funcs[f]? = some fn) (l2:fn.name ≠ "runtime.NumGoroutine") (l6:fn.body = some c') (l3:args.length + nc <= fn.ntmps) (l5:aJ (QG P) fn.results.toList = some res)
  (hb:aD P fn.ntmps c' body) {w0:dO} {h0:Hp} {s s' : St} {ex:Ex} {a:Act} {w:World} {h:Hp} {hd:Nat->Value} {Q:Exit->Act->World->Prop} {rest:List Nat}
  (hF:∀ t,w0.F t = none) (he:bA C n (.inlv ops x nc args dst f body res id slots) s = some (ex,s')) (r:Rl nt w0 h0 s.get s.blk a w h hd)
  (hQ:ex = .normal->∀ a' w' h' hd',Rl nt w0 h0 s'.get s'.blk a' w' h' hd'->wpOps P rops Q rest a' w'):wpOps P rops Q (List.range ops.length ++ ops.length :: rest) a w:=by
 simp only [bA] at he
 split at he
 ·cases he
 rename_i s1 hs1
 split at he
 ·cases he
 rename_i caps hcaps
 split at he
 ·cases he
 rename_i s2 hs2
 have hfin:∃ ex' s3,bA C n body s2 = some (ex',s3) ∧ rC dst res id slots s3 = some s' ∧ ex = .normal ∧ (ex' = .normal ∨ ex' = .ret):=by
  split at he
  ·rename_i s3 h3
   obtain ⟨s4,q1,q2⟩:=Option.map_eq_some_iff.1 he
   cases q2
   exact ⟨_,s3,h3,q1,rfl,.inl rfl⟩
  ·rename_i s3 h3
   obtain ⟨s4,q1,q2⟩:=Option.map_eq_some_iff.1 he
   cases q2
   exact ⟨_,s3,h3,q1,rfl,.inr rfl⟩
  ·cases he
 obtain ⟨ex',s3,hev,hout,rfl,hex⟩:=hfin
 have hcv:bH s1.get x = .fn f caps ∧ caps.length = nc:=by
  unfold C0 at hcaps
  split at hcaps
  ·rename_i g cs hg
   split at hcaps
   ·rename_i q
    cases hcaps
    obtain ⟨rfl,q2⟩:=q
    exact ⟨hg,q2⟩
   ·cases hcaps
  ·cases hcaps
 refine aIM hC hlow hfn l6 (by rw [List.length_append,List.length_map,hcv.2]; exact l3) l5 hb hF r hs1 hs2 hev hout hex ?_ (hQ rfl)
 intro o a1 w1 h1 hd1 g1 r1
 obtain ⟨c,y,hop,hcal,hy,hl⟩:=OI g1
 obtain ⟨m1,m2⟩:=bF hl
 have hfv:=aU r1.frame hy
 rw [hcv.1] at hfv
 obtain ⟨arr,hge,hgs,hgr⟩ : ∃ arr:Array Value,a1.eval y = .func (.func f) #[] arr ∧ arr.size = caps.length ∧ ∀ j x,caps[j]? = some x->RC hd1 s1.blk (arr.getD j undef) x:=hfv
 have hsz:(c.args.map a1.eval).size = (args.map (bH s1.get)).length:=by simpa using m1
 refine ⟨c.args.map a1.eval ++ arr,by rw [Array.size_append,List.length_append,hsz,hgs],fun j z hz=>?_,?_⟩
 ·rw [List.getElem?_append] at hz
  split at hz
  ·rename_i hlt
   rw [List.getElem?_map,Option.map_eq_some_iff] at hz
   obtain ⟨u,hu,rfl⟩:=hz
   obtain ⟨q,x1,x2⟩:=bM hl hu
   have x1' : c.args[j]? = some q:=by simpa using x1
   have e3:(c.args.map a1.eval ++ arr).getD j undef = a1.eval q:=by
    simp only [Array.getD_eq_getD_getElem?]
    rw [Array.getElem?_append_left (by omega)]
    simp [x1']
   rw [e3]
   exact aU r1.frame x2
  ·rename_i hlt
   have e3:(c.args.map a1.eval ++ arr).getD j undef = arr.getD (j - (args.map (bH s1.get)).length) undef:=by
    simp only [Array.getD_eq_getD_getElem?]
    rw [Array.getElem?_append_right (by omega),hsz]
   rw [e3]
   have hrc:=hgr _ z hz
   cases z with
   | ptr i off=>exact hrc
   | _=>exact hrc.elim
 ·simp [execOp,hop,resolve,hcal,hge,Deferred.ofValue,invoke,callFunc,hfn,l2,l6]
theorem AP {nt rid:Nat} {rops:Array Oper} {ops:List aM} {dst:Option Nat} {f:Nat} {x:bS} {nc:Nat} {args:List bS} {body:aF} {res:List uX} {id:Nat} {slots:List Nat} {fn:Func} {c' : Code}
  (hlow:aJ (lA P nt rops) rops.toList = some (ops.map aM.bare ++ [⟨dst,.callv x args,none,dst.getD 0⟩])) (hfn:P.funcs[f]? = some fn) (l2:fn.name ≠ "runtime.NumGoroutine") (l6:fn.body = some c') (l3:args.length + nc <= fn.ntmps) (l5:aJ (QG P) fn.results.toList = some res)
  (hb:aD P fn.ntmps c' body):aD P nt (.region rid rops false) (.inlv ops x nc args dst f body res id slots):=by
 intro C hC n w0 h0 s s' ex a w h hd Q hF he r hQ
 have hlen:rops.size = ops.length + 1:=by simpa using (bF hlow).1
 refine wp_region ?_
 rw [hlen,List.range_succ]
 refine aBW hC hlow hfn l2 l6 l3 l5 hb hF he r ?_
 rintro rfl a' w' h' hd' r'
 exact hQ _ _ h' hd' r'
theorem aA9 {C:Nat->List D->Option D} (hC:tU P C) (hm:P.follows .mixedOrders = true) {n f t:Nat} {fn:Func} {sf:dH} {c:Code} {ds:List D} {x:D} {ex:Ex} {s:St} (hfn:P.funcs[f]? = some fn) (l2:fn.name ≠ "runtime.NumGoroutine") (l3:fn.ntmps = sf.nt) (l4:sf.np <= sf.nt)
  (l5:aJ (QG P) fn.results.toList = some sf.results) (l6:fn.body = some c) (l7:wY P sf.nt c = some sf.body.bare) (hnp:ds.length = sf.np) (hnd:D1 t sf.body = true)
  (hev:bA C n sf.body (IU t ds) = some (ex,s)) (hfs:O1 sf s t = some x) (hex:ex = .normal ∨ ex = .ret):UB P f ds t x:=by
 refine ⟨⟨fn,hfn,l2,by rw [l6]; rfl⟩,?_⟩
 intro e size rows rows' y hdt hx w h vs hle hvs hrd hlent
 refine calls_of_wp hfn l6 ?_
 generalize hvt:vs.getD t undef = vt at hlent ⊢
 have hvsz:vs.size = sf.np:=by omega
 have htd:t < ds.length:=(List.getElem?_eq_some_iff.1 hdt).1
 have htv:t < vs.size:=by omega
 have hini:IU t ds = ⟨(t,.own 900000 0) :: pV 0 ds,[(900000,some (.rows 0 e size rows))]⟩:=by
  unfold IU
  rw [hdt]
  rfl
 obtain ⟨e1,e2,⟨xs,e3,e4⟩,e5⟩:=hlent
 have hget:∀ i,i < vs.size->(vs ++ Array.replicate (fn.ntmps - vs.size) undef).getD i undef = vs.getD i undef:=fun i hi=>by
  simp only [Array.getD_eq_getD_getElem?]
  rw [Array.getElem?_append_left hi]
 have hbl:∀ id b,(IU t ds).blk id = some b->id = 900000 ∧ b = .rows 0 e size rows:=fun id b hb=>by
  rw [hini] at hb
  simp only [St.blk,lk] at hb
  split at hb
  ·rename_i q; cases hb; exact ⟨q,rfl⟩
  ·cases hb
 have hbl0:(IU t ds).blk 900000 = some (.rows 0 e size rows):=by rw [hini]; simp [St.blk,lk]
 have r0:Rl sf.nt (dO.lent w t (vt)) h (IU t ds).get (IU t ds).blk { tmps:=vs ++ Array.replicate (fn.ntmps - vs.size) undef,defers:=[] } w h (fun _=>vt):={
  tmps:=by simp; omega
  defers:=rfl
  fixed:=fun i v hF=>by
   simp only [dO.lent] at hF
   split at hF
   ·rename_i q; cases hF; subst q; exact (hget _ htv).trans hvt
   ·cases hF
  below:=CX.refl _ _
  hle:=hle
  h0le:=Hp.le.refl _
  hbase:=fun _ _=>rfl
  frame:=fun i=>by
   have q1:(IU t ds).get i = if i = t then .own 900000 0 else (match ds[i]? with | some d=>aFA d | none=>.any):=by
    rw [hini]
    simp only [St.get,lk]
    split
    ·rfl
    ·have:=I3 ds 0 i
     simpa using this
   rw [q1]
   split
   ·rename_i q
    subst q
    rw [hget _ htv,hvt]
    exact ⟨_,0,hbl0,rfl,Nat.le_refl _,e3.one,fun _=>rfl⟩
   ·rename_i hne
    cases hd:ds[i]? with
    | none=>trivial
    | some d =>
     have hlt:i < vs.size:=by rw [hvs]; exact (List.getElem?_eq_some_iff.1 hd).1
     simp only [hget i hlt]
     exact aBa (hrd i d hne hd)
  blk:=fun id b hb=>by
   obtain ⟨_,rfl⟩:=hbl id b hb
   exact ⟨e1,e2,⟨xs,e3,e4⟩,fun g hg=>⟨e5 g hg,.inr hg⟩⟩
  sep:=fun i j bi bj g hi hj _ _ _ _=>by rw [(hbl i bi hi).1,(hbl j bj hj).1] }
 refine aBf hC hm n sf.body c _ s ex _ w h _ _ (aE8 (fun d hd=>by simp [dO.lent,hd]) sf.body c l7 hnd) l7 hev r0 fun a' w' h' hd' r'=>?_
 have key:a'.defers = [] ∧ ∃ v,(results fn a'.tmps).run P w' = .ok v w' ∧ ∃ v' h'',(Ending.returned v) = .returned v' ∧ aQ h'' v' y ∧ WW w' h'' (vt) e size rows' ∧ h.le h'' ∧ h''.le (hw w') ∧ CX (dO.lent w t (vt)) w w':=by
  refine ⟨r'.defers,?_⟩
  unfold O1 at hfs
  split at hfs
  ·rename_i id ver hst
   split at hfs
   ·rename_i vv e' size' rows'' hb
    split at hfs
    ·rename_i hv
     subst hv
     have hslot:hd' id = vt:=by
      have h3:=r'.frame t
      rw [hst] at h3
      obtain ⟨b,cc,g1,g2,g3,g4,g5⟩ : ∃ b c',s.blk id = some b ∧ b.ver? = some c' ∧ ver <= c' ∧ _ ∧ (ver = c'->_ = hd' id):=h3
      rw [hb] at g1
      cases g1
      simp only [aH.ver?,Option.some.injEq] at g2
      rw [← g5 g2]
      exact r'.fixed t _ (by simp [dO.lent])
     have hLR:WW w' h' (vt) e' size' rows'':=by
      obtain ⟨k1,k2,k3,k4⟩:=r'.blk id _ hb
      rw [hslot] at k3 k4
      exact ⟨k1,k2,k3,fun g hg=>(k4 g hg).1⟩
     split at hfs
     ·cases hfs
     ·rename_i u hres
      split at hfs
      ·rename_i y' hy
       split at hfs
       ·rename_i hfl
        rw [hx] at hfs
        simp only [Option.some.injEq,D.own.injEq,List.cons.injEq,Prod.mk.injEq,and_true] at hfs
        obtain ⟨rfl,⟨rfl,rfl⟩,rfl⟩:=hfs
        obtain ⟨cvs,g1,g2,g3⟩:=vM r' fn.results.toList sf.results [u] l5 hres
        match cvs,g2 with
        | [cv],_ =>
         have hv:R3 h' hd' s.blk cv u:=by simpa using g3 0 u rfl
         have hrun:(results fn a'.tmps).run P w' = .ok cv w':=by
          unfold results
          rw [← Array.toArray_toList (xs:=fn.results),List.mapM_toArray]
          simp only [Sem.run_bind,Sem.run_map]
          erw [g1]
          simp
         have hrd:aQ (FA w' h' hd' (vY s.blk u)) cv y':=nT r' _ (by cases u <;> first | exact hv | cases hy) hy (fun p hp=>hp)
         exact ⟨cv,hrun,cv,h',rfl,A3 hrd hfl h',hLR,r'.h0le,r'.hle,r'.below⟩
       ·cases hfs
      ·cases hfs
     ·rename_i us hne hres
      split at hfs
      ·rename_i y' hy
       split at hfs
       ·rename_i hfl
        rw [hx] at hfs
        simp only [Option.some.injEq,D.own.injEq,List.cons.injEq,Prod.mk.injEq,and_true] at hfs
        obtain ⟨rfl,⟨rfl,rfl⟩,rfl⟩:=hfs
        obtain ⟨cvs,g1,g2,g3⟩:=vM r' fn.results.toList sf.results us l5 hres
        have hne1:cvs.length ≠ 1:=by
         intro h1
         rw [g2] at h1
         match us,h1 with
         | [v],_=>exact hne v rfl
        have hrun:(results fn a'.tmps).run P w' = .ok (.tuple cvs.toArray) w':=by
         unfold results
         rw [← Array.toArray_toList (xs:=fn.results),List.mapM_toArray]
         simp only [Sem.run_bind,Sem.run_map]
         erw [g1]
         simp [hne1]
        have hR:R3 h' hd' s.blk (.tuple cvs.toArray) (.tup us):=by
         simp only [toD] at hy
         cases hm2:aJ (jR s.blk) us with
         | none=>simp [hm2] at hy
         | some ys =>
          refine ⟨cvs.toArray,rfl,by simpa using g2,fun j z hz=>?_⟩
          have h3:=g3 j z hz
          have e3:cvs.toArray.getD j undef = cvs.getD j undef:=by simp
          rw [e3]
          obtain ⟨y,y1,y2⟩:=(bF hm2).2 j z hz
          cases z <;> first | exact h3 | cases y2
        have hrd:=aF0 r' (us.flatMap (vY s.blk)) hR hy (fun p hp=>hp)
        exact ⟨_,hrun,_,h',rfl,A3 hrd hfl h',hLR,r'.h0le,r'.hle,r'.below⟩
       ·cases hfs
      ·cases hfs
    ·cases hfs
   ·cases hfs
  ·cases hfs
 rcases hex with rfl | rfl
 ·exact key
 ·exact key
def aAD (P:Program) (f:Nat):Def->Prop
 | .code _=>True
 | .told o=>∀ ds x,o ds = some x->E5 P f ds x
 | .toldL o=>∀ ds x t,o ds = some x->lN 0 ds = some t->UB P f ds t x
theorem OV (T:zS) (hT:∀ f sf,T f = some (.code sf)->∃ fn,P.funcs[f]? = some fn ∧ PW P fn sf) (hO:∀ f d,T f = some d->aAD P f d) (hm:P.follows .mixedOrders = true):∀ (n f:Nat) (ds:List D) (x:D),kQ T n f ds = some x->(lN 0 ds = none->E5 P f ds x) ∧ ∀ t,lN 0 ds = some t->UB P f ds t x
 | 0,f,ds,x,e=>by cases e
 | n + 1,f,ds,x,e=>by
  simp only [kQ] at e
  split at e
  ·cases e
  ·rename_i o ho
   split at e
   ·rename_i hl
    exact ⟨fun _=>hO f (.told o) ho ds x e,fun t ht=>(by rw [hl] at ht; cases ht)⟩
   ·cases e
  ·rename_i o ho
   split at e
   ·rename_i hl
    exact ⟨fun q=>(by rw [q] at hl; cases hl),fun t ht=>hO f (.toldL o) ho ds x t e ht⟩
   ·cases e
  ·rename_i sf hsf
   split at e
   ·rename_i hnp
    obtain ⟨fn,hfn,l1,l2,l3,l4,l5,c,l6,l7,l8⟩:=hT f sf hsf
    cases hla:lN 0 ds with
    | some t =>
     rw [hla] at e
     simp only at e
     refine ⟨fun q=>(by cases q),fun t' ht=>?_⟩
     cases ht
     split at e
     ·rename_i hq
      split at e
      ·rename_i s hs; exact aA9 (OV T hT hO hm n) hm hfn l2 l3 l4 l5 l6 (l8 hq.1) hnp hq.2 hs e (.inl rfl)
      ·rename_i s hs; exact aA9 (OV T hT hO hm n) hm hfn l2 l3 l4 l5 l6 (l8 hq.1) hnp hq.2 hs e (.inr rfl)
      ·cases e
     ·cases e
    | none =>
    rw [hla] at e
    simp only at e
    refine ⟨fun _=>?_,fun t ht=>(by cases ht)⟩
    have hfin:∃ ex s,bA (kQ T n) n sf.body ⟨pV 0 ds,[]⟩ = some (ex,s) ∧ FZ sf s = some x ∧ (ex = .normal ∨ ex = .ret):=by
     split at e
     ·rename_i s hs; exact ⟨_,s,hs,e,.inl rfl⟩
     ·rename_i s hs; exact ⟨_,s,hs,e,.inr rfl⟩
     ·cases e
    obtain ⟨ex,s,hev,hfs,hex⟩:=hfin
    refine ⟨⟨fn,hfn,l2,by rw [l6]; rfl⟩,?_⟩
    intro w h vs hle hvs hrd
    refine calls_of_wp hfn l6 ?_
    have hvsz:vs.size = sf.np:=by omega
    have r0:Rl sf.nt (dO.of w) h (⟨pV 0 ds,[]⟩ : St).get (⟨pV 0 ds,[]⟩ : St).blk { tmps:=vs ++ Array.replicate (fn.ntmps - vs.size) undef,defers:=[] } w h (fun _=>undef):={
     tmps:=by simp; omega
     defers:=rfl
     fixed:=fun i v hF=>by cases hF
     below:=CX.refl _ _
     hle:=hle
     h0le:=Hp.le.refl _
     hbase:=fun _ _=>rfl
     frame:=fun t=>by
      have e1:(⟨pV 0 ds,[]⟩ : St).get t = (match ds[t]? with | some d=>aFA d | none=>.any):=by
       have:=I3 ds 0 t
       simpa [St.get] using this
      rw [e1]
      cases hd:ds[t]? with
      | none=>trivial
      | some d =>
       have hlt:t < vs.size:=by rw [hvs]; exact (List.getElem?_eq_some_iff.1 hd).1
       have e2:(vs ++ Array.replicate (fn.ntmps - vs.size) undef).getD t undef = vs.getD t undef:=by
        simp only [Array.getD_eq_getD_getElem?]
        rw [Array.getElem?_append_left hlt]
       simp only [e2]
       exact aBa (hrd t d hd)
     blk:=fun id b hb=>by simp [St.blk,lk] at hb
     sep:=fun i j bi bj g hi=>by simp [St.blk,lk] at hi }
    refine l7 hm _ (OV T hT hO hm n) n _ _ _ s ex _ w h _ _ (fun _=>rfl) hev r0 fun a' w' h' hd' r'=>?_
    have hbase:∀ b,b < w.heap.size->h' b = h b:=fun b hb=>r'.hbase b fun q=>by have:=dO.own_of q; omega
    have hnot:∀ b,b < w.heap.size->¬ (dO.of w).own b:=fun b hb q=>by have:=dO.own_of q; omega
    have hbelow:=r'.below.below
    have key:a'.defers = [] ∧ ∃ v,(results fn a'.tmps).run P w' = .ok v w' ∧ ∃ v' h'',(Ending.returned v) = .returned v' ∧ J0 (dO.of w) w' h'' v' x ∧ h.le h'' ∧ h''.le (hw w') ∧ (∀ b,b < w.heap.size->h'' b = h b) ∧ Below w.heap.size w w':=by
     refine ⟨r'.defers,?_⟩
     unfold FZ at hfs
     split at hfs
     ·cases hfs
     ·rename_i v hres
      obtain ⟨cvs,g1,g2,g3⟩:=vM r' fn.results.toList sf.results [v] l5 hres
      match cvs,g2 with
      | [cv],_ =>
       have hv:R3 h' hd' s.blk cv v:=by simpa using g3 0 v rfl
       have hrun:(results fn a'.tmps).run P w' = .ok cv w':=by
        unfold results
        rw [← Array.toArray_toList (xs:=fn.results),List.mapM_toArray]
        simp only [Sem.run_bind,Sem.run_map]
        erw [g1]
        simp
       split at hfs
       ·exact ⟨cv,hrun,cv,h',rfl,X8 r' hv hfs,r'.h0le,r'.hle,hbase,hbelow⟩
       have hrd:aQ (FA w' h' hd' (vY s.blk v)) cv x:=nT r' _ (by cases v <;> first | exact hv | cases hfs) hfs (fun p hp=>hp)
       exact ⟨cv,hrun,cv,FA w' h' hd' (vY s.blk v),rfl,hrd.toF,r'.h0le.trans (xP r' _),J4 r' _,fun b hb=>(P4 r' _ (aAg v) b (hnot b hb)).trans (hbase b hb),hbelow⟩
     ·rename_i vs' hne hres
      obtain ⟨cvs,g1,g2,g3⟩:=vM r' fn.results.toList sf.results vs' l5 hres
      have hne1:cvs.length ≠ 1:=by
       intro h1
       rw [g2] at h1
       match vs',h1 with
       | [v],_=>exact hne v rfl
      have hrun:(results fn a'.tmps).run P w' = .ok (.tuple cvs.toArray) w':=by
       unfold results
       rw [← Array.toArray_toList (xs:=fn.results),List.mapM_toArray]
       simp only [Sem.run_bind,Sem.run_map]
       erw [g1]
       simp [hne1]
      split at hfs
      ·rename_i hfr
       have hR:R3 h' hd' s.blk (.tuple cvs.toArray) (.tup vs'):=by
        refine ⟨cvs.toArray,rfl,by simpa using g2,fun j z hz=>?_⟩
        have h3:=g3 j z hz
        have e3:cvs.toArray.getD j undef = cvs.getD j undef:=by simp
        rw [e3]
        obtain ⟨y,hy⟩:=aAP hfs hz
        cases z <;> first | exact h3 | cases hy
       exact ⟨_,hrun,_,h',rfl,X8 r' hR hfs,r'.h0le,r'.hle,hbase,hbelow⟩
      have hR:R3 h' hd' s.blk (.tuple cvs.toArray) (.tup vs'):=by
       simp only [toD] at hfs
       cases hm2:aJ (jR s.blk) vs' with
       | none=>simp [hm2] at hfs
       | some ys =>
        refine ⟨cvs.toArray,rfl,by simpa using g2,fun j z hz=>?_⟩
        have h3:=g3 j z hz
        have e3:cvs.toArray.getD j undef = cvs.getD j undef:=by simp
        rw [e3]
        obtain ⟨y,y1,y2⟩:=(bF hm2).2 j z hz
        cases z <;> first | exact h3 | cases y2
      refine ⟨_,hrun,_,FA w' h' hd' (vs'.flatMap (vY s.blk)),rfl,(aF0 r' _ hR hfs (fun p hp=>hp)).toF,r'.h0le.trans (xP r' _),J4 r' _,fun b hb=>(P4 r' _ ?_ b (hnot b hb)).trans (hbase b hb),hbelow⟩
      exact uY.flatMap vs' fun z=>z
    rcases hex with rfl | rfl
    ·exact key
    ·exact key
   ·cases e
end
end Vm
end Go.Proofs.Ytjjcaapdaldedaa
namespace Go.Proofs.Ytjjcaapdaldedaa
namespace Vm
open Go.RowKit
section
variable {P:Program} {nt:Nat} {w0:dO} {h0:Hp}
def aGr (ops:Array Oper) (listed:Array Bool):Prop:=∀ k,listed.getD k false = true->∀ j,((H8 ops.toList).getD k 0).testBit j = true->listed.getD j false = true
def aCA (ops:Array Oper) (listed:Array Bool) (M:List Nat):Prop:=∀ i,i ∈ M ↔ i < ops.size ∧ listed.getD i true = false
theorem EC {listed:Array Bool} {j:Nat} (hj:j < listed.size) (h:listed.getD j true = false):listed.getD j false = false:=by
 simp only [Array.getD_eq_getD_getElem?] at h ⊢
 simp [hj] at h ⊢
 exact h
theorem aDk {listed:Array Bool} {j:Nat} (hj:j < listed.size) (h:listed.getD j true ≠ false):listed.getD j false = true:=by
 simp only [Array.getD_eq_getD_getElem?] at h ⊢
 simp [hj] at h ⊢
 exact h
theorem OB {ops:Array Oper} (hok:AW ops.toList = true) {m:Nat} {M:List Nat} {listed:Array Bool} (hp:(m :: M).Pairwise (· < ·)) (hs:listed.size = ops.size) (hM:aCA ops listed (m :: M)):m ∈ Region.ready .any ops listed:=by
 have hm:=(hM m).1 (by simp)
 obtain ⟨o,ho⟩ : ∃ o,ops[m]? = some o:=⟨ops[m]'hm.1,by simp [hm.1]⟩
 refine mem_ready.2 ⟨hm.2,o,ho,fun e he hb=>?_⟩
 have hlt:e.on < m:=by
  have h4:=List.all_eq_true.1 hok (o,m) (by
   rw [List.mem_iff_getElem?]; exact ⟨m,by simp [ho]⟩)
  have h3:=Array.all_eq_true_iff_forall_mem.1 h4 e he
  simpa [hb] using h3
 refine aDk (by omega) fun q=>?_
 have hmem:=(hM e.on).2 ⟨by omega,q⟩
 rcases List.mem_cons.1 hmem with q | q
 ·omega
 ·have:=(List.pairwise_cons.1 hp).1 _ q; omega
theorem M7 {ops:Array Oper} (hok:AW ops.toList = true) {listed:Array Bool} (hdc:aGr ops listed) {i:Nat} (hi:i ∈ Region.ready .any ops listed):listed.getD i true = false ∧ (∃ o,ops[i]? = some o) ∧ ∀ j,((H8 ops.toList).getD i 0).testBit j = true->listed.getD j false = true:=by
 obtain ⟨hun,o,ho,hall⟩:=mem_ready.1 hi
 refine ⟨hun,⟨o,ho⟩,fun j hj=>?_⟩
 obtain ⟨e,he,hb,hje⟩:=W4 ops.toList hok (i:=i) (o:=o) (by simpa using ho) j hj
 have h5:=hall e he hb
 rcases hje with rfl | hje
 ·exact h5
 ·exact hdc _ h5 j hje
theorem VM {ops:Array Oper} {listed:Array Bool} {A B:List Nat} {i:Nat} (hp:(A ++ i :: B).Pairwise (· < ·)) (hs:listed.size = ops.size) (hM:aCA ops listed (A ++ i :: B)):aCA ops (listed.setIfInBounds i true) (A ++ B):=by
 have hpw:=List.pairwise_append.1 hp
 intro k
 have hnd:k ∈ A ++ B ↔ k ∈ A ++ i :: B ∧ k ≠ i:=by
  have hA:i ∉ A:=fun q=>absurd (hpw.2.2 i q i (by simp)) (by omega)
  have hB:i ∉ B:=fun q=>absurd ((List.pairwise_cons.1 hpw.2.1).1 i q) (by omega)
  simp only [List.mem_append,List.mem_cons]
  constructor
  ·rintro (q | q)
   ·exact ⟨.inl q,fun e=>hA (e ▸ q)⟩
   ·exact ⟨.inr (.inr q),fun e=>hB (e ▸ q)⟩
  ·rintro ⟨q | q | q,hne⟩
   ·exact .inl q
   ·exact absurd q hne
   ·exact .inr q
 rw [hnd,hM k]
 constructor
 ·rintro ⟨⟨g1,g2⟩,g3⟩; exact ⟨g1,by rw [getD_set_ne true (Ne.symm g3)]; exact g2⟩
 ·rintro ⟨g1,g2⟩
  have g3:k ≠ i:=by
   rintro rfl
   have hkl:k < listed.size:=by omega
   simp [hkl] at g2
  exact ⟨⟨g1,by rw [getD_set_ne true (Ne.symm g3)] at g2; exact g2⟩,g3⟩
theorem V6 {ops:Array Oper} {listed:Array Bool} {i:Nat} (hdc:aGr ops listed) (hanc:∀ j,((H8 ops.toList).getD i 0).testBit j = true->listed.getD j false = true):aGr ops (listed.setIfInBounds i true):=by
 intro k hk j hj
 by_cases hki:k = i
 ·subst hki; exact getD_set_true (hanc j hj)
 ·rw [getD_set_ne false (Ne.symm hki)] at hk
  exact getD_set_true (hdc k hk j hj)
theorem aLa {A B:List Nat} {i:Nat} (hp:(A ++ i :: B).Pairwise (· < ·)):(A ++ B).Pairwise (· < ·):=by
 have hpw:=List.pairwise_append.1 hp
 exact List.pairwise_append.2 ⟨hpw.1,(List.pairwise_cons.1 hpw.2.1).2,fun x hx y hy=>hpw.2.2 x hx y (by simp [hy])⟩
theorem TH {C:Nat->List D->Option D} (hC:tU P C) {ops:Array Oper} {l:List aM} (hF:O6 w0 ops) (hlow:aJ (lA P nt ops) ops.toList = some (l.map aM.bare)) (hok:AW ops.toList = true) (fp:Nat->Fp) (hind:∀ p ∈ FQ ops.toList,Ind l fp p.1 p.2)
  {c:Nat} {B:List Nat} (hA:∀ j,j < c->((H8 ops.toList).getD c 0).testBit j = true) (hB:∀ k ∈ B,((H8 ops.toList).getD k 0).testBit c = true) {Q:Exit->Act->World->Prop} {s1:Fn}
  (hcall:∀ (listed:Array Bool) (a:Act) (w:World) (h:Hp) (hd:Nat->Value),listed.size = ops.size->aCA ops listed B->aGr ops listed->Rl nt w0 h0 s1.1 s1.2 a w h hd->wpOp P ops Q c (wpAny P .any ops Q B.length listed) a w) :
  ∀ (fuel:Nat) (A:List Nat) (listed:Array Bool) (s:Fn) (a:Act) (w:World) (h:Hp) (hd:Nat->Value),A.length = fuel->(A ++ c :: B).Pairwise (· < ·)->listed.size = ops.size->aCA ops listed (A ++ c :: B)->aGr ops listed ->
   Rl nt w0 h0 s.1 s.2 a w h hd->qS C l fp A s s1->wpAny P .any ops Q (fuel + (B.length + 1)) listed a w:=by
 intro fuel
 induction fuel with
 | zero =>
  intro A listed s a w h hd hl hp hs hM hdc r hst
  have:A = []:=List.eq_nil_of_length_eq_zero hl
  subst this
  simp only [qS] at hst
  subst hst
  rw [Nat.zero_add]
  refine ⟨fun hnil=>?_,fun i hi=>?_⟩
  ·have:=OB hok (m:=c) (M:=B) hp hs hM
   rw [hnil] at this; cases this
  ·obtain ⟨g1,⟨o,g2⟩,g3⟩:=M7 hok hdc hi
   have hin:i < ops.size:=(Array.getElem?_eq_some_iff.1 g2).1
   have hiM:=(hM i).2 ⟨hin,g1⟩
   have hc:=(hM c).1 (by simp)
   rcases List.mem_cons.1 hiM with rfl | hiB
   ·exact hcall _ a w h hd (by simpa using hs) (VM (A:=[]) hp hs hM) (V6 hdc g3) r
   ·have:=g3 c (hB i hiB)
    rw [EC (by omega) hc.2] at this
    cases this
 | succ fuel ih =>
  intro A listed s a w h hd hl hp hs hM hdc r hst
  rw [show fuel + 1 + (B.length + 1) = (fuel + (B.length + 1)) + 1 by omega]
  have hc:=(hM c).1 (by simp)
  refine ⟨fun hnil=>?_,fun i hi=>?_⟩
  ·match A,hl with
   | m :: A',_ =>
    have:=OB hok (m:=m) (M:=A' ++ c :: B) hp hs hM
    rw [hnil] at this; cases this
  ·obtain ⟨g1,⟨o,g2⟩,g3⟩:=M7 hok hdc hi
   have hin:i < ops.size:=(Array.getElem?_eq_some_iff.1 g2).1
   have hiM:=(hM i).2 ⟨hin,g1⟩
   have hpw:=List.pairwise_append.1 hp
   have hiA:i ∈ A:=by
    rcases List.mem_append.1 hiM with q | q
    ·exact q
    rcases List.mem_cons.1 q with rfl | q
    ·exfalso
     match A,hl with
     | m :: A',_ =>
      have hm:=(hM m).1 (by simp)
      have:=g3 m (hA m (hpw.2.2 m (by simp) i (by simp)))
      rw [EC (by omega) hm.2] at this
      cases this
    ·exfalso
     have:=g3 c (hB i q)
     rw [EC (by omega) hc.2] at this
     cases this
   obtain ⟨A1,A2,rfl⟩:=List.append_of_mem hiA
   have hp' : (A1 ++ i :: (A2 ++ c :: B)).Pairwise (· < ·):=by simpa using hp
   have hM' : aCA ops listed (A1 ++ i :: (A2 ++ c :: B)):=by
    have e:A1 ++ i :: A2 ++ c :: B = A1 ++ i :: (A2 ++ c :: B):=by simp
    rw [← e]; exact hM
   have hpw':=List.pairwise_append.1 hp'
   have hbr:=qS.bring hst (fun j hj=>by
    have hji:j < i:=hpw'.2.2 j hj i (by simp)
    have hjun:listed.getD j true = false:=((hM' j).1 (by simp [hj])).2
    refine hind (j,i) ?_
    simp only [FQ]
    refine List.mem_flatMap.2 ⟨i,by simpa using hin,List.mem_map.2 ⟨j,List.mem_filter.2 ⟨by simpa using hji,?_⟩,rfl⟩⟩
    rw [Bool.not_eq_true',← Bool.not_eq_true]
    intro hmem
    have:=g3 j hmem
    rw [EC (by omega) hjun] at this
    cases this)
   obtain ⟨so,s2,hso,hstep,hrest⟩:=hbr
   obtain ⟨o',q1,q2⟩:=bM hlow (show (l.map aM.bare)[i]? = some so.bare by simp [hso])
   have:o' = o:=by
    have:ops[i]? = some o':=by simpa using q1
    rw [g2] at this
    exact (Option.some.inj this).symm
   subst this
   refine OY hC r hF g2 q2 hstep fun a' w' h' hd' r'=>ih (A1 ++ A2) (listed.setIfInBounds i true) s2 a' w' h' hd' (by simp at hl ⊢; omega) ?_ (by simpa using hs) ?_ (V6 hdc g3) r' hrest
   ·have:=aLa hp'
    simpa using this
   ·have:=VM hp' hs hM'
    have e:A1 ++ A2 ++ c :: B = A1 ++ (A2 ++ c :: B):=by simp
    rw [e]; exact this
theorem qS.wide {C:Nat->List D->Option D} {l L:List aM} {fp fq:Nat->Fp}:∀ {M:List Nat} {s s' : Fn},(∀ i ∈ M,l[i]? = L[i]? ∧ fp i = fq i)->qS C l fp M s s'->qS C L fq M s s'
 | [],s,s',_,h=>h
 | i :: M,s,s',hi,⟨o,s1,g1,g2,g3⟩=>by
  obtain ⟨e1,e2⟩:=hi i (by simp)
  exact ⟨o,s1,e1 ▸ g1,e2 ▸ g2,qS.wide (fun k hk=>hi k (by simp [hk])) g3⟩
theorem zR {C:Nat->List D->Option D} {l:List aM} {pairs:List (Nat × Nat)} {s s' : St} (hr:eH C l (some pairs) s = some s'):∃ ps,iP C l s = some (s',ps) ∧ ∀ p ∈ pairs,∀ x y,l[p.1]? = some x->l[p.2]? = some y->ind x y (ps.getD p.1 ([],[])) (ps.getD p.2 ([],[])) = true:=by
 simp only [eH] at hr
 split at hr
 ·rename_i s2 ps hps
  split at hr
  ·rename_i hap
   cases hr
   refine ⟨ps,hps,fun p hp x y hx hy=>?_⟩
   have:=List.all_eq_true.1 hap p hp
   obtain ⟨i,j⟩:=p
   simp only at hx hy this ⊢
   rw [hx,hy] at this
   have hpl:=FU hps
   have hi:=(List.getElem?_eq_some_iff.1 hx).1
   have hj:=(List.getElem?_eq_some_iff.1 hy).1
   have hi' : i < ps.length:=by omega
   have hj' : j < ps.length:=by omega
   have e1:ps[i]? = some (ps.getD i ([],[])):=by simp [List.getD,hi']
   have e2:ps[j]? = some (ps.getD j ([],[])):=by simp [List.getD,hj']
   rw [e1,e2] at this
   exact this
  ·cases hr
 ·cases hr
theorem PH {nt rid:Nat} {rops:Array Oper} {ops ops2:List aM} {dst:Option Nat} {f:Nat} {x:bS} {nc:Nat} {args:List bS} {body:aF} {res:List uX} {id:Nat} {slots:List Nat} {fn:Func} {c' : Code} {ps1 ps2:List (Nat × Nat)} (hm:P.follows .mixedOrders = true)
  (hlow:aJ (lA P nt rops) rops.toList = some (ops.map aM.bare ++ ⟨dst,.callv x args,none,dst.getD 0⟩ :: ops2.map aM.bare)) (hok:AW rops.toList = true)
  (hloose:((FQ rops.toList).all fun p=>(decide (p.1 < ops.length ∧ p.2 < ops.length) && ps1.contains p) || (decide (ops.length < p.1 ∧ ops.length < p.2) && ps2.contains (p.1 - (ops.length + 1),p.2 - (ops.length + 1)))) = true)
  (hA:((List.range ops.length).all fun j=>((H8 rops.toList).getD ops.length 0).testBit j) = true) (hB:((List.range ops2.length).all fun k=>((H8 rops.toList).getD (ops.length + 1 + k) 0).testBit ops.length) = true)
  (hfn:P.funcs[f]? = some fn) (l2:fn.name ≠ "runtime.NumGoroutine") (l6:fn.body = some c') (l3:args.length + nc <= fn.ntmps) (l5:aJ (QG P) fn.results.toList = some res)
  (hb:aD P fn.ntmps c' body):aD P nt (.region rid rops true) (.seq (.region ops (some ps1)) (.seq (.inlv [] x nc args dst f body res id slots) (.region ops2 (some ps2)))):=by
 intro C hC n w0 h0 s s' ex a w h hd Q hF he r hQ
 have hOF:O6 w0 rops:=fun _ _ d _=>hF d
 have hlen:rops.size = ops.length + (ops2.length + 1):=by
  have:=(bF hlow).1
  simp only [List.length_append,List.length_map,List.length_cons] at this
  have h2:rops.toList.length = rops.size:=rfl
  omega
 have hlow' : aJ (lA P nt rops) rops.toList = some ((ops ++ ⟨dst,.callv x args,none,dst.getD 0⟩ :: ops2).map aM.bare):=by
  rw [hlow,List.map_append,List.map_cons]
  rfl
 rw [bA] at he
 cases hr1:eH C ops (some ps1) s with
 | none=>simp only [bA,hr1] at he; cases he
 | some s1 =>
 have e1:bA C n (.region ops (some ps1)) s = some (.normal,s1):=by simp only [bA,hr1]
 rw [e1] at he
 simp only at he
 rw [bA] at he
 cases hi:bA C n (.inlv [] x nc args dst f body res id slots) s1 with
 | none=>rw [hi] at he; cases he
 | some p =>
 obtain ⟨ei,s4⟩:=p
 have hi2:=hi
 simp only [bA] at hi2
 split at hi2
 ·cases hi2
 rename_i s1' hs1'
 have:s1' = s1:=(Option.some.inj (show some s1 = some s1' from hs1')).symm
 subst this
 split at hi2
 ·cases hi2
 rename_i caps hcaps
 split at hi2
 ·cases hi2
 rename_i s2 hs2
 have hfin:∃ ex' s3,bA C n body s2 = some (ex',s3) ∧ rC dst res id slots s3 = some s4 ∧ ei = .normal ∧ (ex' = .normal ∨ ex' = .ret):=by
  split at hi2
  ·rename_i s3 h3
   obtain ⟨s5,q1,q2⟩:=Option.map_eq_some_iff.1 hi2
   cases q2
   exact ⟨_,s3,h3,q1,rfl,.inl rfl⟩
  ·rename_i s3 h3
   obtain ⟨s5,q1,q2⟩:=Option.map_eq_some_iff.1 hi2
   cases q2
   exact ⟨_,s3,h3,q1,rfl,.inr rfl⟩
  ·cases hi2
 obtain ⟨ex',s3,hev,hout,rfl,hex⟩:=hfin
 rw [hi] at he
 simp only [bA] at he
 cases hr2:eH C ops2 (some ps2) s4 with
 | none=>rw [hr2] at he; cases he
 | some s5 =>
 rw [hr2] at he
 cases he
 obtain ⟨p1,hp1,hi1⟩:=zR hr1
 obtain ⟨p2,hp2,hi2'⟩:=zR hr2
 let fp:Nat->Fp:=fun i=>if i < ops.length then p1.getD i ([],[]) else p2.getD (i - (ops.length + 1)) ([],[])
 have hst1:qS C (ops ++ ⟨dst,.callv x args,none,dst.getD 0⟩ :: ops2) fp (List.range ops.length) s.fn s1'.fn:=by
  have:=nN ops (fun i=>p1.getD i ([],[])) (k:=0) (fun i=>by simp) (fun i _=>by simp) hp1
  have e0:(List.range ops.length).map (0 + ·) = List.range ops.length:=by simp
  rw [e0] at this
  refine qS.wide (fun i hi=>?_) this
  have hi:=List.mem_range.1 hi
  exact ⟨by rw [List.getElem?_append_left hi],by simp only [fp]; rw [if_pos hi]⟩
 have hst2:qS C (ops ++ ⟨dst,.callv x args,none,dst.getD 0⟩ :: ops2) fp ((List.range ops2.length).map (ops.length + 1 + ·)) s4.fn s'.fn :=
  nN (ops ++ ⟨dst,.callv x args,none,dst.getD 0⟩ :: ops2) fp (k:=ops.length + 1) (fun i=>by
   rw [List.getElem?_append_right (by omega),show ops.length + 1 + i - ops.length = i + 1 by omega,List.getElem?_cons_succ]) (fun i _=>by
   simp only [fp]
   rw [if_neg (by omega),Nat.add_sub_cancel_left]) hp2
 have hind:∀ p ∈ FQ rops.toList,Ind (ops ++ ⟨dst,.callv x args,none,dst.getD 0⟩ :: ops2) fp p.1 p.2:=by
  intro p hp x y hx hy
  have:=List.all_eq_true.1 hloose p hp
  rw [Bool.or_eq_true,Bool.and_eq_true,Bool.and_eq_true,decide_eq_true_eq,decide_eq_true_eq] at this
  rcases this with ⟨⟨g1,g2⟩,g3⟩ | ⟨⟨g1,g2⟩,g3⟩
  ·rw [List.getElem?_append_left g1] at hx
   rw [List.getElem?_append_left g2] at hy
   have:=hi1 p (by simpa using g3) x y hx hy
   simp only [fp]
   rw [if_pos g1,if_pos g2]
   exact this
  ·rw [List.getElem?_append_right (by omega),show p.1 - ops.length = (p.1 - (ops.length + 1)) + 1 by omega,List.getElem?_cons_succ] at hx
   rw [List.getElem?_append_right (by omega),show p.2 - ops.length = (p.2 - (ops.length + 1)) + 1 by omega,List.getElem?_cons_succ] at hy
   have:=hi2' (p.1 - (ops.length + 1),p.2 - (ops.length + 1)) (by simpa using g3) x y hx hy
   simp only [fp]
   rw [if_neg (by omega),if_neg (by omega)]
   exact this
 have hpwB:((List.range ops2.length).map (ops.length + 1 + ·)).Pairwise (· < ·):=List.pairwise_map.2 (List.pairwise_lt_range.imp fun h=>by omega)
 have hBl:((List.range ops2.length).map (ops.length + 1 + ·)).length = ops2.length:=by simp
 refine wp_region_any hm ?_
 have key:=TH hC hOF hlow' hok fp hind (c:=ops.length) (B:=(List.range ops2.length).map (ops.length + 1 + ·)) (Q:=Q) (s1:=s1'.fn)
  (fun j hj=>List.all_eq_true.1 hA j (List.mem_range.2 hj)) (fun k hk=>by
   obtain ⟨q,hq,rfl⟩:=List.mem_map.1 hk
   exact List.all_eq_true.1 hB q hq)
  (fun listed a1 w1 h1 hd1 g1 g2 g3 r1=>by
   have hcv:bH s1'.get x = .fn f caps ∧ caps.length = nc:=by
    unfold C0 at hcaps
    split at hcaps
    ·rename_i g cs hg
     split at hcaps
     ·rename_i q
      cases hcaps
      obtain ⟨rfl,q2⟩:=q
      exact ⟨hg,q2⟩
     ·cases hcaps
    ·cases hcaps
   have hs2' : EG (args.map (bH s1'.get) ++ caps) id slots s1' = some s2:=hs2
   refine aEp (lop:=.callv x args) hC hlow (by simp) hfn l6 (by rw [List.length_append,List.length_map,hcv.2]; exact l3) l5 hb hF r1 hs2' hev hout hex ?_ fun a' w' h' hd' r'=>?_
   ·intro o a1 w1 h1 hd1 g1 r1
    obtain ⟨c,y,hop,hcal,hy,hl⟩:=OI g1
    obtain ⟨m1,m2⟩:=bF hl
    have hfv:=aU r1.frame hy
    rw [hcv.1] at hfv
    obtain ⟨arr,hge,hgs,hgr⟩ : ∃ arr:Array Value,a1.eval y = .func (.func f) #[] arr ∧ arr.size = caps.length ∧ ∀ j x,caps[j]? = some x->RC hd1 s1'.blk (arr.getD j undef) x:=hfv
    have hsz:(c.args.map a1.eval).size = (args.map (bH s1'.get)).length:=by simpa using m1
    refine ⟨c.args.map a1.eval ++ arr,by rw [Array.size_append,List.length_append,hsz,hgs],fun j z hz=>?_,?_⟩
    ·rw [List.getElem?_append] at hz
     split at hz
     ·rename_i hlt
      rw [List.getElem?_map,Option.map_eq_some_iff] at hz
      obtain ⟨u,hu,rfl⟩:=hz
      obtain ⟨q,x1,x2⟩:=bM hl hu
      have x1' : c.args[j]? = some q:=by simpa using x1
      have e3:(c.args.map a1.eval ++ arr).getD j undef = a1.eval q:=by
       simp only [Array.getD_eq_getD_getElem?]
       rw [Array.getElem?_append_left (by omega)]
       simp [x1']
      rw [e3]
      exact aU r1.frame x2
     ·rename_i hlt
      have e3:(c.args.map a1.eval ++ arr).getD j undef = arr.getD (j - (args.map (bH s1'.get)).length) undef:=by
       simp only [Array.getD_eq_getD_getElem?]
       rw [Array.getElem?_append_right (by omega),hsz]
      rw [e3]
      have hrc:=hgr _ z hz
      cases z with
      | ptr i off=>exact hrc
      | _=>exact hrc.elim
    ·simp [execOp,hop,resolve,hcal,hge,Deferred.ofValue,invoke,callFunc,hfn,l2,l6]
   ·exact VA hC hOF hlow' hok fp hind (s':=s'.fn) (fun a2 w2 h2 hd2 r2=>hQ _ _ h2 hd2 r2) _ _ listed s4.fn a' w' h' hd' rfl hpwB g1 g2 g3 r' hst2)
  ops.length (List.range ops.length) (Array.replicate rops.size false) s.fn a _ h hd (by simp) ?_ (by simp) ?_ ?_ r.drew hst1
 ·rw [hBl] at key
  rw [show rops.size = ops.length + (ops2.length + 1) from hlen]
  rw [hlen] at key
  exact key
 ·refine List.pairwise_append.2 ⟨List.pairwise_lt_range,List.pairwise_cons.2 ⟨fun x hx=>?_,hpwB⟩,fun x hx y hy=>?_⟩
  ·obtain ⟨q,_,rfl⟩:=List.mem_map.1 hx
   omega
  ·have:=List.mem_range.1 hx
   rcases List.mem_cons.1 hy with rfl | hy
   ·omega
   ·obtain ⟨q,_,rfl⟩:=List.mem_map.1 hy
    omega
 ·intro i
  have hrep:i < rops.size->(Array.replicate rops.size false).getD i true = false:=fun q=>by simp [q]
  simp only [List.mem_append,List.mem_range,List.mem_cons,List.mem_map]
  constructor
  ·intro q
   have:i < rops.size:=by
    rcases q with q | q | ⟨z,q1,q2⟩ <;> omega
   exact ⟨this,hrep this⟩
  ·rintro ⟨q,_⟩
   by_cases c1:i < ops.length
   ·exact .inl c1
   ·by_cases c2:i = ops.length
    ·exact .inr (.inl c2)
    ·exact .inr (.inr ⟨i - (ops.length + 1),by omega,by omega⟩)
 ·intro k hk
  exfalso
  simp only [Array.getD_eq_getD_getElem?,Array.getElem?_replicate] at hk
  split at hk <;> simp at hk
end
end Vm
end Go.Proofs.Ytjjcaapdaldedaa
namespace Go.Proofs.Ytjjcaapdaldedaa
namespace Vm
open Go.RowKit
noncomputable def lim {α:Type} (g:Nat->Option α):Option α:=@dite _ (∃ n x,g n = some x) (Classical.propDecidable _) (fun h=>some h.choose_spec.choose) (fun _=>none)
def aNy {α:Type} (g:Nat->Option α):Prop:=∀ n m x,n <= m->g n = some x->g m = some x
theorem UI {α:Type} {g:Nat->Option α} (hg:aNy g) {x:α}:lim g = some x ↔ ∃ n,g n = some x:=by
 unfold lim
 split
 ·rename_i h
  have hs:=h.choose_spec.choose_spec
  constructor
  ·intro e; cases e; exact ⟨_,hs⟩
  ·rintro ⟨n,hn⟩
   have h1:=hg _ (max h.choose n) _ (Nat.le_max_left _ _) hs
   have h2:=hg _ (max h.choose n) _ (Nat.le_max_right _ _) hn
   rw [h1] at h2
   exact h2
 ·rename_i h
  constructor
  ·intro e; cases e
  ·rintro ⟨n,hn⟩; exact absurd ⟨n,x,hn⟩ h
theorem uS {α:Type} {a b:Option α} (h:∀ x,a = some x ↔ b = some x):a = b:=by
 cases a with
 | none=>cases b with
  | none=>rfl
  | some y=>have:=(h y).2 rfl; cases this
 | some x=>exact ((h x).1 rfl).symm
def CLe (C D:Nat->List Vm.D->Option Vm.D):Prop:=∀ f ds x,C f ds = some x->D f ds = some x
section
variable {C C' : Nat->List D->Option D}
theorem aEa (hc:CLe C C') {site:Nat} {ev:bS->V} {bl:Nat->Option aH} {so:gG} {r:V × List (Nat × Option aH)} (e:b7 C site ev bl so = some r):b7 C' site ev bl so = some r:=by
 cases so with
 | call f args =>
  simp only [b7] at e ⊢
  split at e
  ·cases e
  ·split at e
   ·cases e
   ·rename_i x hx
    rw [hc _ _ _ hx]
    exact e
 | callv g args =>
  simp only [b7] at e ⊢
  split at e
  ·split at e
   ·cases e
   ·split at e
    ·cases e
    ·rename_i x hx
     rw [hc _ _ _ hx]
     exact e
  ·cases e
 | calln f args =>
  simp only [b7] at e ⊢
  split at e
  ·cases e
  ·split at e
   ·rename_i hx
    rw [hc _ _ _ hx]
    exact e
   ·cases e
 | lend f args t =>
  simp only [b7] at e ⊢
  split at e
  ·split at e
   ·cases e
   ·split at e
    ·rename_i hn
     rw [if_pos hn]
     split at e
     ·rename_i hx
      rw [hc _ _ _ hx]
      exact e
     ·cases e
    ·cases e
  ·cases e
 | _=>exact e
theorem NW (hc:CLe C C') {o:aM} {s:St} {r:St × Fp} (e:jW C o s = some r):jW C' o s = some r:=by
 unfold jW at e ⊢
 split at e
 ·split at e
  ·rename_i v wr ha
   rw [aEa hc ha]; exact e
  ·cases e
 ·exact e
 ·cases e
theorem AS (hc:CLe C C'):∀ {l:List aM} {s:St} {r:St × List Fp},iP C l s = some r->iP C' l s = some r
 | [],s,r,e=>e
 | o :: l,s,r,e=>by
  simp only [iP] at e ⊢
  split at e
  ·rename_i s' p h1
   rw [NW hc h1]
   split at e
   ·rename_i s'' ps h2
    simp only [AS hc h2]
    exact e
   ·cases e
  ·cases e
theorem aDx (o:aM) (s:St):uL C o s = (jW C o s).map (·.1):=by
 unfold uL jW
 cases o.wants s.get with
 | run =>
  simp only
  cases b7 C o.site (bH s.get) s.blk o.op with
  | none=>rfl
  | some r=>rfl
 | skip=>rfl
 | bad=>rfl
theorem JE:∀ (l:List aM) (s:St),lG C l s = (iP C l s).map (·.1)
 | [],s=>rfl
 | o :: l,s=>by
  simp only [lG,iP,aDx]
  cases jW C o s with
  | none=>rfl
  | some r =>
   obtain ⟨s',p⟩:=r
   simp only [Option.map_some,JE l s']
   cases iP C l s' with
   | none=>rfl
   | some q=>rfl
theorem oI (hc:CLe C C') {l:List aM} {d:Option (List (Nat × Nat))} {s s' : St} (e:eH C l d s = some s'):eH C' l d s = some s':=by
 cases d with
 | none =>
  simp only [eH,JE,Option.map_eq_some_iff] at e ⊢
  obtain ⟨r,h1,h2⟩:=e
  exact ⟨r,AS hc h1,h2⟩
 | some ps =>
  simp only [eH] at e ⊢
  split at e
  ·rename_i h1
   rw [AS hc h1]; exact e
  ·cases e
theorem EI {f g:St->Option (Ex × St)} (h:∀ s r,f s = some r->g s = some r):∀ {n m:Nat} {s:St} {r:Ex × St},n <= m->yM f n s = some r->yM g m s = some r
 | 0,m,s,r,_,e=>by cases e
 | n + 1,0,s,r,hle,e=>by omega
 | n + 1,m + 1,s,r,hle,e=>by
  simp only [yM] at e ⊢
  cases hf:f s with
  | none=>rw [hf] at e; cases e
  | some q =>
   obtain ⟨ex,s'⟩:=q
   rw [hf] at e
   rw [h s _ hf]
   cases ex with
   | normal=>exact EI h (by omega) e
   | exit id=>exact e
   | ret=>exact e
theorem nL (hc:CLe C C') {n m:Nat} (hnm:n <= m):∀ (c:aF) (s:St) (r:Ex × St),bA C n c s = some r->bA C' m c s = some r:=by
 intro c
 induction c with
 | skip=>exact fun s r e=>e
 | region ops d =>
  intro s r e
  simp only [bA] at e ⊢
  split at e
  ·rename_i h1; rw [oI hc h1]; exact e
  ·cases e
 | seq a b iha ihb =>
  intro s r e
  simp only [bA] at e ⊢
  cases ha:bA C n a s with
  | none=>rw [ha] at e; cases e
  | some q =>
   obtain ⟨ex,s'⟩:=q
   rw [ha] at e
   rw [iha s _ ha]
   cases ex with
   | normal=>exact ihb _ _ e
   | exit id=>exact e
   | ret=>exact e
 | cond c a b iha ihb =>
  intro s r e
  simp only [bA] at e ⊢
  split at e
  ·exact iha _ _ e
  ·exact ihb _ _ e
  ·cases e
 | block id a iha =>
  intro s r e
  simp only [bA] at e ⊢
  cases ha:bA C n a s with
  | none=>rw [ha] at e; cases e
  | some q=>rw [ha] at e; rw [iha s _ ha]; exact e
 | loop a iha =>
  intro s r e
  simp only [bA] at e ⊢
  exact EI iha hnm e
 | exit id=>exact fun s r e=>e
 | ret=>exact fun s r e=>e
 | hand g=>exact fun s r e=>e
 | inl ops args dst f body res id slots ih =>
  intro s r e
  simp only [bA] at e ⊢
  split at e
  ·cases e
  ·rename_i s1 h1
   have h1' : lG C' ops s = some s1:=oI (d:=none) hc h1
   rw [h1']
   simp only
   split at e
   ·cases e
   ·rename_i s2 h2
    cases hb:bA C n body s2 with
    | none=>rw [hb] at e; cases e
    | some q=>rw [hb] at e; simp only [ih s2 _ hb]; exact e
 | inlv ops x nc args dst f body res id slots ih =>
  intro s r e
  simp only [bA] at e ⊢
  split at e
  ·cases e
  ·rename_i s1 h1
   have h1' : lG C' ops s = some s1:=oI (d:=none) hc h1
   rw [h1']
   simp only
   split at e
   ·cases e
   ·rename_i caps hcaps
    split at e
    ·cases e
    ·rename_i s2 h2
     cases hb:bA C n body s2 with
     | none=>rw [hb] at e; cases e
     | some q=>rw [hb] at e; simp only [ih s2 _ hb]; exact e
 | pre m' a iha=>exact fun s r e=>iha _ _ e
 | post a m' iha =>
  intro s r e
  simp only [bA] at e ⊢
  cases ha:bA C n a s with
  | none=>rw [ha] at e; cases e
  | some q=>rw [ha] at e; rw [iha s _ ha]; exact e
end
theorem JG (T:zS):∀ (n f:Nat) (ds:List D) (x:D),kQ T n f ds = some x->kQ T (n + 1) f ds = some x
 | 0,f,ds,x,e=>by cases e
 | n + 1,f,ds,x,e=>by
  rw [kQ] at e ⊢
  cases hT:T f with
  | none=>rw [hT] at e; cases e
  | some d =>
   rw [hT] at e
   cases d with
   | told o=>exact e
   | toldL o=>exact e
   | code sf =>
   simp only at e ⊢
   split at e
   ·rename_i hl
    rw [if_pos hl]
    cases hla:lN 0 ds with
    | none =>
     rw [hla] at e
     simp only at e ⊢
     cases he:bA (kQ T n) n sf.body ⟨pV 0 ds,[]⟩ with
     | none=>rw [he] at e; cases e
     | some q =>
      rw [he] at e
      rw [nL (JG T n) (Nat.le_succ n) _ _ _ he]
      exact e
    | some t =>
     rw [hla] at e
     simp only at e ⊢
     split at e
     ·rename_i hq
      rw [if_pos hq]
      cases he:bA (kQ T n) n sf.body (IU t ds) with
      | none=>rw [he] at e; cases e
      | some q =>
       rw [he] at e
       rw [nL (JG T n) (Nat.le_succ n) _ _ _ he]
       exact e
     ·cases e
   ·cases e
theorem lI (T:zS) {n m:Nat} (h:n <= m):CLe (kQ T n) (kQ T m):=by
 induction h with
 | refl=>exact fun _ _ _ e=>e
 | step _ ih=>exact fun f ds x e=>JG T _ f ds x (ih f ds x e)
noncomputable def call (T:zS) (f:Nat) (ds:List D):Option D:=lim fun n=>kQ T n f ds
noncomputable def ev (T:zS) (c:aF) (s:St):Option (Ex × St):=lim fun n=>bA (kQ T n) n c s
theorem xB {T:zS} {f:Nat} {ds:List D} {x:D}:call T f ds = some x ↔ ∃ n,kQ T n f ds = some x:=UI fun _ _ _ h e=>lI T h _ _ _ e
theorem iQ {T:zS} {c:aF} {s:St} {r:Ex × St}:ev T c s = some r ↔ ∃ n,bA (kQ T n) n c s = some r:=UI fun _ _ _ h e=>nL (lI T h) h _ _ _ e
theorem aAt {P:Program} {T:zS} (hT:∀ f sf,T f = some (.code sf)->∃ fn,P.funcs[f]? = some fn ∧ PW P fn sf) (hO:∀ f d,T f = some d->aAD P f d) (hm:P.follows .mixedOrders = true) {f:Nat} {ds:List D} {x:D} (e:call T f ds = some x) (hl:lN 0 ds = none):E5 P f ds x:=by
 obtain ⟨n,hn⟩:=xB.1 e
 exact (OV T hT hO hm n f ds x hn).1 hl
section
variable {T:zS}
theorem XC (n:Nat):CLe (kQ T n) (call T):=fun f ds x e=>xB.2 ⟨n,e⟩
theorem aIO {site:Nat} {evv:bS->V} {bl:Nat->Option aH} {so:gG} {r:V × List (Nat × Option aH)} (e:b7 (call T) site evv bl so = some r):∃ n,b7 (kQ T n) site evv bl so = some r:=by
 cases so with
 | call f args =>
  simp only [b7] at e ⊢
  split at e
  ·cases e
  ·rename_i ds hds
   split at e
   ·cases e
   ·rename_i x hx
    obtain ⟨n,hn⟩:=xB.1 hx
    exact ⟨n,by rw [hn]; exact e⟩
 | callv g args =>
  simp only [b7] at e ⊢
  split at e
  ·split at e
   ·cases e
   ·split at e
    ·cases e
    ·rename_i x hx
     obtain ⟨n,hn⟩:=xB.1 hx
     exact ⟨n,by rw [hn]; exact e⟩
  ·cases e
 | calln f args =>
  simp only [b7] at e ⊢
  split at e
  ·cases e
  ·rename_i ds hds
   split at e
   ·rename_i hx
    obtain ⟨n,hn⟩:=xB.1 hx
    exact ⟨n,by rw [hn]; exact e⟩
   ·cases e
 | lend f args t =>
  simp only [b7] at e ⊢
  split at e
  ·split at e
   ·cases e
   ·split at e
    ·rename_i hq
     simp only [if_pos hq]
     split at e
     ·rename_i hx
      obtain ⟨n,hn⟩:=xB.1 hx
      exact ⟨n,by rw [hn]; exact e⟩
     ·cases e
    ·cases e
  ·cases e
 | _=>exact ⟨0,e⟩
theorem Z4 {o:aM} {s:St} {r:St × Fp} (e:jW (call T) o s = some r):∃ n,jW (kQ T n) o s = some r:=by
 unfold jW at e ⊢
 split at e
 ·split at e
  ·rename_i v wr ha
   obtain ⟨n,hn⟩:=aIO ha
   exact ⟨n,by rw [hn]; exact e⟩
  ·cases e
 ·exact ⟨0,e⟩
 ·cases e
theorem FP:∀ {l:List aM} {s:St} {r:St × List Fp},iP (call T) l s = some r->∃ n,iP (kQ T n) l s = some r
 | [],s,r,e=>⟨0,e⟩
 | o :: l,s,r,e=>by
  simp only [iP] at e ⊢
  split at e
  ·rename_i s' p h1
   split at e
   ·rename_i s'' ps h2
    obtain ⟨n1,g1⟩:=Z4 h1
    obtain ⟨n2,g2⟩:=FP h2
    refine ⟨max n1 n2,?_⟩
    rw [NW (lI T (Nat.le_max_left n1 n2)) g1]
    simp only [AS (lI T (Nat.le_max_right n1 n2)) g2]
    exact e
   ·cases e
  ·cases e
theorem CU {l:List aM} {d:Option (List (Nat × Nat))} {s s' : St}:eH (call T) l d s = some s' ↔ ∃ n,eH (kQ T n) l d s = some s':=by
 constructor
 ·intro e
  cases d with
  | none =>
   simp only [eH,JE,Option.map_eq_some_iff] at e ⊢
   obtain ⟨r,h1,h2⟩:=e
   obtain ⟨n,hn⟩:=FP h1
   exact ⟨n,r,hn,h2⟩
  | some ps =>
   simp only [eH] at e ⊢
   split at e
   ·rename_i h1
    obtain ⟨n,hn⟩:=FP h1
    exact ⟨n,by rw [hn]; exact e⟩
   ·cases e
 ·rintro ⟨n,hn⟩; exact oI (XC n) hn
theorem aH2 (s:St):ev T .skip s = some (.normal,s):=iQ.2 ⟨0,rfl⟩
theorem aJs (id:Nat) (s:St):ev T (.exit id) s = some (.exit id,s):=iQ.2 ⟨0,rfl⟩
theorem aHm (g:St->Option St) (s:St):ev T (.hand g) s = (g s).map fun s'=>(.normal,s'):=by
 refine uS fun x=>?_
 rw [iQ]
 have e:∀ n,bA (kQ T n) n (.hand g) s = (g s).map fun s'=>(.normal,s'):=fun n=>by simp only [bA]; cases g s <;> rfl
 simp only [e]
 exact ⟨fun ⟨_,h⟩=>h,fun h=>⟨0,h⟩⟩
theorem aJj (ops:List aM) (x:bS) (nc:Nat) (args:List bS) (dst:Option Nat) (f:Nat) (body:aF) (res:List uX) (id:Nat) (slots:List Nat) (s:St):ev T (.inlv ops x nc args dst f body res id slots) s = (match lG (call T) ops s with
  | none=>none
  | some s1=>match C0 f nc (bH s1.get x) with
   | none=>none
   | some caps=>match EG (args.map (bH s1.get) ++ caps) id slots s1 with
    | none=>none
    | some s2=>match ev T body s2 with
     | some (.normal,s3)=>(rC dst res id slots s3).map fun s4=>(.normal,s4)
     | some (.ret,s3)=>(rC dst res id slots s3).map fun s4=>(.normal,s4)
     | _=>none):=by
 refine uS fun r=>?_
 rw [iQ]
 constructor
 ·rintro ⟨n,hn⟩
  simp only [bA] at hn
  split at hn
  ·cases hn
  ·rename_i s1 h1
   have h1' : lG (call T) ops s = some s1:=oI (d:=none) (XC n) h1
   rw [h1']
   simp only
   split at hn
   ·cases hn
   ·rename_i caps hcaps
    split at hn
    ·cases hn
    ·rename_i s2 h2
     cases hb:bA (kQ T n) n body s2 with
     | none=>rw [hb] at hn; cases hn
     | some q=>rw [hb] at hn; simp only [hcaps,h2,iQ.2 ⟨n,hb⟩]; exact hn
 ·intro e
  split at e
  ·cases e
  ·rename_i s1 h1
   obtain ⟨n1,g1⟩:=(CU (l:=ops) (d:=none)).1 h1
   split at e
   ·cases e
   ·rename_i caps hcaps
    split at e
    ·cases e
    ·rename_i s2 h2
     cases hb:ev T body s2 with
     | none=>rw [hb] at e; cases e
     | some q =>
      rw [hb] at e
      obtain ⟨n2,g2⟩:=iQ.1 hb
      refine ⟨max n1 n2,?_⟩
      have g1' : lG (kQ T (max n1 n2)) ops s = some s1:=oI (d:=none) (lI T (Nat.le_max_left n1 n2)) g1
      have g2':=nL (lI T (Nat.le_max_right n1 n2)) (Nat.le_max_right n1 n2) _ _ _ g2
      simp only [bA,g1',hcaps,h2,g2']
      exact e
theorem aKz (s:St):ev T .ret s = some (.ret,s):=iQ.2 ⟨0,rfl⟩
theorem SY (l:List aM) (d:Option (List (Nat × Nat))) (s:St):ev T (.region l d) s = (eH (call T) l d s).map fun s'=>(.normal,s'):=by
 refine uS fun r=>?_
 rw [iQ,Option.map_eq_some_iff]
 constructor
 ·rintro ⟨n,hn⟩
  simp only [bA] at hn
  split at hn
  ·rename_i s' h1; cases hn; exact ⟨s',CU.2 ⟨n,h1⟩,rfl⟩
  ·cases hn
 ·rintro ⟨s',h1,rfl⟩
  obtain ⟨n,hn⟩:=CU.1 h1
  exact ⟨n,by simp only [bA,hn]⟩
theorem aK1 (a b:aF) (s:St):ev T (.seq a b) s = (match ev T a s with | some (.normal,s')=>ev T b s' | r=>r):=by
 refine uS fun r=>?_
 rw [iQ]
 constructor
 ·rintro ⟨n,hn⟩
  simp only [bA] at hn
  cases ha:bA (kQ T n) n a s with
  | none=>rw [ha] at hn; cases hn
  | some q =>
   obtain ⟨ex,s'⟩:=q
   rw [ha] at hn
   rw [iQ.2 ⟨n,ha⟩]
   cases ex with
   | normal=>exact iQ.2 ⟨n,hn⟩
   | exit id=>exact hn
   | ret=>exact hn
 ·intro e
  cases ha:ev T a s with
  | none=>rw [ha] at e; cases e
  | some q =>
   obtain ⟨ex,s'⟩:=q
   rw [ha] at e
   obtain ⟨n1,g1⟩:=iQ.1 ha
   cases ex with
   | normal =>
    obtain ⟨n2,g2⟩:=iQ.1 e
    refine ⟨max n1 n2,?_⟩
    simp only [bA,nL (lI T (Nat.le_max_left n1 n2)) (Nat.le_max_left n1 n2) _ _ _ g1]
    exact nL (lI T (Nat.le_max_right n1 n2)) (Nat.le_max_right n1 n2) _ _ _ g2
   | exit id=>exact ⟨n1,by simp only [bA,g1]; exact e⟩
   | ret=>exact ⟨n1,by simp only [bA,g1]; exact e⟩
theorem aJo (c:bS) (a b:aF) (s:St):ev T (.cond c a b) s = (match bH s.get c with | .d (.bool true)=>ev T a s | .d (.bool false)=>ev T b s | _=>none):=by
 refine uS fun r=>?_
 rw [iQ]
 simp only [bA]
 generalize bH s.get c = v
 cases v with
 | d x=>cases x with
  | bool b=>cases b <;> exact iQ.symm
  | _=>simp
 | _=>simp
theorem aFl (id:Nat) (a:aF) (s:St):ev T (.block id a) s = (match ev T a s with | some (.exit id',s')=>if id' = id then some (.normal,s') else some (.exit id',s') | r=>r):=by
 refine uS fun r=>?_
 rw [iQ]
 constructor
 ·rintro ⟨n,hn⟩
  simp only [bA] at hn
  cases ha:bA (kQ T n) n a s with
  | none=>rw [ha] at hn; cases hn
  | some q=>rw [ha] at hn; rw [iQ.2 ⟨n,ha⟩]; exact hn
 ·intro e
  cases ha:ev T a s with
  | none=>rw [ha] at e; cases e
  | some q =>
   rw [ha] at e
   obtain ⟨n1,g1⟩:=iQ.1 ha
   exact ⟨n1,by simp only [bA,g1]; exact e⟩
theorem aJ1 (m:xN) (a:aF) (s:St):ev T (.post a m) s = (match ev T a s with | some (.normal,s')=>some (.normal,m.app s') | r=>r):=by
 refine uS fun r=>?_
 rw [iQ]
 constructor
 ·rintro ⟨n,hn⟩
  simp only [bA] at hn
  cases ha:bA (kQ T n) n a s with
  | none=>rw [ha] at hn; cases hn
  | some q=>rw [ha] at hn; rw [iQ.2 ⟨n,ha⟩]; exact hn
 ·intro e
  cases ha:ev T a s with
  | none=>rw [ha] at e; cases e
  | some q =>
   rw [ha] at e
   obtain ⟨n1,g1⟩:=iQ.1 ha
   exact ⟨n1,by simp only [bA,g1]; exact e⟩
theorem aJf (a:aF) (s:St):ev T (.loop a) s = (match ev T a s with | some (.normal,s')=>ev T (.loop a) s' | r=>r):=by
 refine uS fun r=>?_
 rw [iQ]
 constructor
 ·rintro ⟨n,hn⟩
  simp only [bA] at hn
  cases n with
  | zero=>cases hn
  | succ n =>
   simp only [yM] at hn
   cases ha:bA (kQ T (n + 1)) (n + 1) a s with
   | none=>rw [ha] at hn; cases hn
   | some q =>
    obtain ⟨ex,s'⟩:=q
    rw [ha] at hn
    rw [iQ.2 ⟨n + 1,ha⟩]
    cases ex with
    | normal=>exact iQ.2 ⟨n + 1,by simp only [bA]; exact EI (fun _ _ e=>e) (Nat.le_succ n) hn⟩
    | exit id=>exact hn
    | ret=>exact hn
 ·intro e
  cases ha:ev T a s with
  | none=>rw [ha] at e; cases e
  | some q =>
   obtain ⟨ex,s'⟩:=q
   rw [ha] at e
   obtain ⟨n1,g1⟩:=iQ.1 ha
   cases ex with
   | normal =>
    obtain ⟨n2,g2⟩:=iQ.1 e
    refine ⟨max n1 n2 + 1,?_⟩
    have h1:=nL (lI T (show n1 <= max n1 n2 + 1 by omega)) (show n1 <= max n1 n2 + 1 by omega) _ _ _ g1
    simp only [bA,yM,h1]
    simp only [bA] at g2
    exact EI (fun s r e=>nL (lI T (show n2 <= max n1 n2 + 1 by omega)) (show n2 <= max n1 n2 + 1 by omega) _ _ _ e) (show n2 <= max n1 n2 by omega) g2
   | exit id=>exact ⟨n1 + 1,by simp only [bA,yM,nL (lI T (Nat.le_succ n1)) (Nat.le_succ n1) _ _ _ g1]; exact e⟩
   | ret=>exact ⟨n1 + 1,by simp only [bA,yM,nL (lI T (Nat.le_succ n1)) (Nat.le_succ n1) _ _ _ g1]; exact e⟩
theorem aCl {f:Nat} {o:List D->Option D} (hf:T f = some (.told o)) (ds:List D) (hlt:lN 0 ds = none):call T f ds = o ds:=by
 refine uS fun x=>?_
 rw [xB]
 constructor
 ·rintro ⟨n,hn⟩
  cases n with
  | zero=>cases hn
  | succ n=>simpa only [kQ,hf,if_pos hlt] using hn
 ·intro e
  exact ⟨1,by simpa only [kQ,hf,if_pos hlt] using e⟩
theorem aHC {f:Nat} {sf:dH} (hf:T f = some (.code sf)) (ds:List D) (hl:ds.length = sf.np) (hlt:lN 0 ds = none):call T f ds = (match ev T sf.body ⟨pV 0 ds,[]⟩ with
  | some (.normal,s)=>FZ sf s
  | some (.ret,s)=>FZ sf s
  | _=>none):=by
 refine uS fun x=>?_
 rw [xB]
 constructor
 ·rintro ⟨n,hn⟩
  cases n with
  | zero=>cases hn
  | succ n =>
   simp only [kQ,hf,if_pos hl,hlt] at hn
   cases he:bA (kQ T n) n sf.body ⟨pV 0 ds,[]⟩ with
   | none=>rw [he] at hn; cases hn
   | some q=>rw [he] at hn; rw [iQ.2 ⟨n,he⟩]; exact hn
 ·intro e
  cases he:ev T sf.body ⟨pV 0 ds,[]⟩ with
  | none=>rw [he] at e; cases e
  | some q =>
   rw [he] at e
   obtain ⟨n,hn⟩:=iQ.1 he
   exact ⟨n + 1,by simp only [kQ,hf,if_pos hl,hlt,hn]; exact e⟩
end
def E7 {S X:Type} (step:S->Option (S ⊕ X)):Nat->S->Option X
 | 0,_=>none
 | n + 1,s=>match step s with
  | none=>none
  | some (.inl s')=>E7 step n s'
  | some (.inr x)=>some x
noncomputable def eO {S X:Type} (step:S->Option (S ⊕ X)) (s:S):Option X:=lim fun n=>E7 step n s
section
variable {S X:Type} {step:S->Option (S ⊕ X)}
theorem PJ:∀ (n m:Nat) (s:S) (x:X),n <= m->E7 step n s = some x->E7 step m s = some x
 | 0,m,s,x,_,e=>by cases e
 | n + 1,0,s,x,h,e=>by omega
 | n + 1,m + 1,s,x,h,e=>by
  simp only [E7] at e ⊢
  split at e
  ·cases e
  ·exact PJ n m _ x (by omega) e
  ·exact e
theorem F3 {s:S} {x:X}:eO step s = some x ↔ ∃ n,E7 step n s = some x:=UI fun n m x h e=>PJ n m _ x h e
theorem aBC (s:S):eO step s = (match step s with | none=>none | some (.inl s')=>eO step s' | some (.inr x)=>some x):=by
 refine uS fun x=>?_
 rw [F3]
 constructor
 ·rintro ⟨n,hn⟩
  cases n with
  | zero=>cases hn
  | succ n =>
   simp only [E7] at hn
   cases hs:step s with
   | none=>rw [hs] at hn; cases hn
   | some q =>
    rw [hs] at hn
    cases q with
    | inl s'=>exact F3.2 ⟨n,hn⟩
    | inr y=>exact hn
 ·intro e
  cases hs:step s with
  | none=>rw [hs] at e; cases e
  | some q =>
   rw [hs] at e
   cases q with
   | inl s'=>obtain ⟨n,hn⟩:=F3.1 e; exact ⟨n + 1,by simp only [E7,hs]; exact hn⟩
   | inr y=>exact ⟨1,by simp only [E7,hs]; exact e⟩
def cU (enc:S->St) (out:X->Ex × St):Option (S ⊕ X)->Option (Ex × St)
 | none=>none
 | some (.inl s')=>some (.normal,enc s')
 | some (.inr x)=>some (out x)
theorem aD5 {T:zS} {c:aF} (enc:S->St) (out:X->Ex × St) (hout:∀ x s,out x ≠ (.normal,s)) (h:∀ s,ev T c (enc s) = cU enc out (step s)) (s:S) :
  ev T (.loop c) (enc s) = (eO step s).map out:=by
 refine uS fun r=>?_
 rw [Option.map_eq_some_iff]
 constructor
 ·intro e
  obtain ⟨n,hn⟩:=iQ.1 e
  simp only [bA] at hn
  generalize hk:(n:Nat) = k at hn
  have key:∀ (k:Nat) (s:S),yM (bA (kQ T n) n c) k (enc s) = some r->∃ x,E7 step k s = some x ∧ out x = r:=by
   intro k
   induction k with
   | zero=>intro s e; cases e
   | succ k ih =>
    intro s e
    simp only [yM] at e
    cases hc:bA (kQ T n) n c (enc s) with
    | none=>rw [hc] at e; cases e
    | some q =>
     have h1:=iQ.2 ⟨n,hc⟩
     rw [h s] at h1
     rw [hc] at e
     simp only [E7]
     cases hs:step s with
     | none=>rw [hs] at h1; cases h1
     | some y =>
      rw [hs] at h1
      cases y with
      | inl s' =>
       obtain rfl:=Option.some.inj h1
       exact ih s' e
      | inr x =>
       simp only [cU,Option.some.injEq] at h1
       refine ⟨x,rfl,?_⟩
       obtain ⟨ex,s'⟩:=q
       cases ex with
       | normal=>exact absurd h1 (hout x s')
       | exit id=>rw [h1]; exact Option.some.inj e
       | ret=>rw [h1]; exact Option.some.inj e
  subst hk
  obtain ⟨x,g1,g2⟩:=key n s hn
  exact ⟨x,F3.2 ⟨n,g1⟩,g2⟩
 ·rintro ⟨x,h1,rfl⟩
  obtain ⟨n,hn⟩:=F3.1 h1
  clear h1
  induction n generalizing s with
  | zero=>cases hn
  | succ n ih =>
   simp only [E7] at hn
   rw [aJf,h s]
   cases hs:step s with
   | none=>rw [hs] at hn; cases hn
   | some q =>
    rw [hs] at hn
    cases q with
    | inl s'=>exact ih s' hn
    | inr y =>
     obtain rfl:=Option.some.inj hn
     simp only [cU]
     cases ho:out y with
     | mk ex s' =>
      cases ex with
      | normal=>exact absurd ho (hout y s')
      | exit id=>rfl
      | ret=>rfl
end
abbrev sp (n:Nat) (op:gG):aM:=⟨some n,op,none,n⟩
abbrev so (n:Nat) (op:gG) (s:Nat):aM:=⟨some n,op,none,s⟩
abbrev dI (x:Int):V:=.d (.int .i64 x)
abbrev dB (b:Bool):V:=.d (.bool b)
abbrev gf (n g:Nat) (op:gG):aM:=⟨some n,op,some (g,false),n⟩
abbrev gt (n g:Nat) (op:gG):aM:=⟨some n,op,some (g,true),n⟩
abbrev rB (a x y n:Nat):aM:=⟨none,.store a (.t x) (.t y),none,n⟩
abbrev aG (x:Nat):gG:=.move (.t x)
abbrev aT (a x:Nat):gG:=.load a false (.t x)
abbrev uD (a x:Nat):gG:=.load a true (.t x)
abbrev bU (a x:Nat):gG:=.fieldAddr a (.t x)
abbrev kA (x:Nat):gG:=.len (.t x)
abbrev kS (a x y:Nat):gG:=.indexAddr a (.t x) (.t y)
abbrev pB (k:Nat) (o:BinOp) (x y:Nat):gG:=.bin k o (.t x) (.t y)
abbrev gC (k:Nat) (o:BinOp) (x:Nat) (y:Int):gG:=.bin k o (.t x) (.c (dI y))
abbrev L5 (x:Nat):gG:=.box (.t x)
abbrev lT (x:Int):gG:=.move (.c (dI x))
abbrev LH (x:Nat):gG:=.un .not (.t x)
abbrev m1 (a:List Nat):xN:=⟨a,[],[],[],[],[]⟩
abbrev m2 (a b:List Nat):xN:=⟨a,b,[],[],[],[]⟩
abbrev kT (l:List aM):aF:=.region l none
abbrev xI (l:List aM) (x:List (Nat × Nat)):aF:=.region l (some x)
abbrev lQ (a:List Nat):aF:=.pre ⟨a,[],[],[],[],[]⟩ .ret
abbrev mR (x:Nat) (c:aF):aF:=.cond (.t x) c .skip
abbrev bJ (a b:aF):aF:=.seq a b
abbrev aP (l:List aM) (b:aF):aF:=.seq (.region l none) b
theorem B7 {P:Program} {f:Func} {s:dH} (h:lH P f s:=by exact ⟨rfl,by decide,rfl,by decide,rfl,_,rfl,by kernel_rfl⟩):lH P f s:=h
end Vm
end Go.Proofs.Ytjjcaapdaldedaa
