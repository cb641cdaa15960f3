/- Each operation of the small machine is the model's: all of them. Regions: one operation behind the other, in whichever order the model draws. Regions: in whichever order the model draws, the same comes out. Regions are run. -/
import Derived.Test.YtgjcnbgfaimepaaVmB
set_option linter.unusedVariables false
set_option linter.unusedSimpArgs false
namespace Go.Proofs.Ytgjcnbgfaimepaa
namespace Vm
open Go.RowKit
def aO2 (P:Program) (f:Nat):Prop:=∃ fn:Func,P.funcs[f]? = some fn ∧ fn.name ≠ "runtime.NumGoroutine" ∧ fn.body.isSome = true
def PP (site:Nat) (es:List (Nat × Nat)) (rs:List (List (List D))):Nat->Option aI:=bP (fun _=>none) (fV site 0 es rs)
def xY (base:b7) (w:World) (h:Hp) (v:Value):D->Prop
 | .own x es rs=>∀ site,∃ hd0:Nat->Value,R3 h hd0 (PP site es rs) v (thaw site x) ∧
   (∀ id b,PP site es rs id = some b->BR base w h hd0 (PP site es rs) id b) ∧
   (∀ i j bi bj g,PP site es rs i = some bi->PP site es rs j = some bj->fL (hd0 i) = some g->fL (hd0 j) = some g->i = j)
 | x=>aT h v x
theorem aE2 {base:b7} {w:World} {h:Hp} {v:Value} {x:D} (hx:∀ y es rs,x ≠ .own y es rs):xY base w h v x ↔ aT h v x:=by
 cases x <;> first | exact Iff.rfl | exact absurd rfl (hx _ _ _)
theorem EF {site:Nat} {bl:Nat->Option aI} {fz:List (Nat × Option aI)} {x:D} (hx:∀ y es rs,x ≠ .own y es rs):oB site bl fz x = some (toV x,if IA x then [] else fz):=by
 cases x <;> first | rfl | exact absurd rfl (hx _ _ _)
theorem E4 (site:Nat):∀ (es:List (Nat × Nat)) (rs:List (List (List D))) (n:Nat),∀ p ∈ fV site n es rs,∃ b:aI,p.2 = some b ∧ b.live = true
 | [],rs,n,p,hp=>by simp [fV] at hp
 | (e,size) :: es,[],n,p,hp=>by simp [fV] at hp
 | (e,size) :: es,rows :: rs,n,p,hp=>by
  simp only [fV,List.mem_cons] at hp
  rcases hp with rfl | hp
  ·exact ⟨_,rfl,by unfold zS; split <;> rfl⟩
  ·exact E4 site es rs (n + 1) p hp
theorem QH {bl:Nat->Option aI}:∀ {l:List (Nat × Option aI)},MM bl l = true->∀ p ∈ l,bl p.1 = none
 | [],_,p,hp=>by simp at hp
 | (i,b) :: l,h,p,hp=>by
  simp only [MM] at h
  split at h
  ·rename_i hi
   rcases List.mem_cons.1 hp with rfl | hp
   ·exact hi
   ·exact QH h p hp
  ·cases h
theorem aEJ {bl:Nat->Option aI} {l:List (Nat × Option aI)} (hf:∀ p ∈ l,bl p.1 = none) (id:Nat) :
  (∃ p ∈ l,p.1 = id ∧ bP bl l id = p.2 ∧ bP (fun _=>none) l id = p.2) ∨ (bP bl l id = bl id ∧ bP (fun _=>none) l id = none):=by
 unfold bP
 have key:∀ (l:List (Nat × Option aI)),(∃ p ∈ l,p.1 = id ∧ lk l (bl id) id = p.2 ∧ lk l none id = p.2) ∨ (lk l (bl id) id = bl id ∧ lk l none id = none):=by
  intro l
  induction l with
  | nil=>exact .inr ⟨rfl,rfl⟩
  | cons q l ih =>
   obtain ⟨i,b⟩:=q
   by_cases e:id = i
   ·refine .inl ⟨(i,b),List.mem_cons_self ..,e.symm,?_,?_⟩ <;> simp [lk,e]
   ·simp only [lk,if_neg e]
    rcases ih with ⟨p,h1,h2⟩ | h
    ·exact .inl ⟨p,List.mem_cons_of_mem _ h1,h2⟩
    ·exact .inr h
 exact key l
theorem BR.base {b0 b1:b7} (hle:∀ g,b1.own g->b0.own g) {w:World} {h:Hp} {hd:Nat->Value} {bl:Nat->Option aI} {id:Nat} {b:aI} (hO:b.live = true ∨ b0.O id = b1.O id) (r:BR b1 w h hd bl id b):BR b0 w h hd bl id b:=by
 cases b with
 | box cs =>
  obtain ⟨g,arr,e,h1,h2,h3⟩:=r
  exact ⟨g,arr,e,h1,hle g h2,h3⟩
 | rows ver e size rows =>
  obtain ⟨h1,h2,h3,h4⟩:=r
  exact ⟨h1,h2,h3,fun g hg=>⟨(h4 g hg).1,hle g (h4 g hg).2⟩⟩
 | froz ver rows=>exact r
 | fbox cs=>exact r
 | mp ek m =>
  obtain ⟨g,h1,h2,h3⟩:=r
  exact ⟨g,h1,hle g h2,h3⟩
 | fmp ek m=>exact r
 | outer cs =>
  rcases hO with q | q
  ·cases q
  ·intro j x hx
   rw [q]
   exact r j x hx
def CF (P:Program) (f:Nat) (ds:List D) (x:D):Prop:=aO2 P f ∧ ∀ (w:World) (h:Hp) (vs:Array Value),h.le (hw w)->vs.size = ds.length->(∀ (i:Nat) (d:D),ds[i]? = some d->aT h (vs.getD i undef) d) ->
 Calls P f vs w fun e w'=>∃ v h',e = .returned v ∧ xY (b7.of w) w' h' v x ∧ h.le h' ∧ h'.le (hw w') ∧ (∀ b,b < w.heap.size->h' b = h b) ∧ Below w.heap.size w w'
def QY:D->Option (Nat × Nat × List (List D))
 | .own (.ref 0) [(e,size)] [rows]=>some (e,size,rows)
 | _=>none
def ZO (w:World) (h:Hp) (v:Value) (e size:Nat) (rows:List (List D)):Prop :=
 0 < size ∧ rows.length <= maxLen ∧ (∃ xs,i5 w e size v rows.length xs ∧ iI h size rows xs) ∧ ∀ g,fL v = some g->h g = none
def jH:Nat->List D->Option Nat
 | _,[]=>none
 | t,d :: ds=>match QY d with
  | some _=>some t
  | none=>jH (t + 1) ds
def b7.lent (w:World) (t:Nat) (v:Value):b7:={ w with L:=fun g=>fL v = some g,F:=fun i=>if i = t then some v else none,O:=fun _ _=>undef,M:=[] }
def WU (P:Program) (f:Nat) (ds:List D) (t:Nat) (x:D):Prop:=aO2 P f ∧ ∀ (e size:Nat) (rows rows' : List (List D)) (y:D),ds[t]? = some (.own (.ref 0) [(e,size)] [rows])->x = .own y [(e,size)] [rows'] ->
 ∀ (w:World) (h:Hp) (vs:Array Value),h.le (hw w)->vs.size = ds.length->(∀ (i:Nat) (d:D),i ≠ t->ds[i]? = some d->aT h (vs.getD i undef) d)->ZO w h (vs.getD t undef) e size rows ->
 Calls P f vs w fun en w'=>∃ v h',en = .returned v ∧ aT h' v y ∧ ZO w' h' (vs.getD t undef) e size rows' ∧ h.le h' ∧ h'.le (hw w') ∧ AC (b7.lent w t (vs.getD t undef)) w w'
def qK (P:Program) (C:Nat->List D->Option D):Prop:=∀ f ds x,C f ds = some x->(jH 0 ds = none->CF P f ds x) ∧ ∀ t,jH 0 ds = some t->WU P f ds t x
theorem CG:∀ (ds:List D) (t:Nat),(∀ d ∈ ds,QY d = none)->jH t ds = none
 | [],_,_=>rfl
 | d :: ds,t,h=>by
  simp only [jH,h d (List.mem_cons_self ..)]
  exact CG ds (t + 1) fun x hx=>h x (List.mem_cons_of_mem _ hx)
theorem OS:∀ (ds:List D) (i t:Nat) (d:D),ds[t]? = some d->(QY d).isSome = true->(∀ (j:Nat) (x:D),j < t->ds[j]? = some x->QY x = none)->jH i ds = some (i + t)
 | [],_,_,_,h,_,_=>by simp at h
 | x :: ds,i,0,d,h,hs,_=>by
  simp only [List.getElem?_cons_zero,Option.some.injEq] at h
  subst h
  obtain ⟨y,hy⟩:=Option.isSome_iff_exists.1 hs
  simp [jH,hy]
 | x :: ds,i,t + 1,d,h,hs,hn=>by
  simp only [jH,hn 0 x (by omega) rfl]
  rw [OS ds (i + 1) t d (by simpa using h) hs (fun j y hj hy=>hn (j + 1) y (by omega) (by simpa using hy))]
  congr 1
  omega
theorem R9 {h:Hp} {v:Value} {d:D} (r:aT h v d):QY d = none:=by
 cases r <;> rfl
section
variable {P:Program} {nt:Nat} {w0:b7} {w w' : World} {h0 h h' : Hp} {fr:Nat->V} {bl:Nat->Option aI} {a:Act} {hd:Nat->Value}
theorem dW {o:Oper} {K:Act->World->Prop} {Q:Exit->Act->World->Prop} {s:Sem Value} {cv:Value} (he:execOp a.eval o = (do pure (.value (← s)))) (hr:s.run P w = .ok cv w') (hk:K (a.put o.dst cv) w'):o.wp P a w K Q:=by
 unfold Oper.wp
 rw [he]
 simp only [Sem.run_bind,hr,Result.andThen_ok,Sem.run_pure]
 exact hk
theorem I0 {o:Oper} {K:Act->World->Prop} {Q:Exit->Act->World->Prop} {s:Sem Unit} (he:execOp a.eval o = (do s; pure .skip)) (hr:s.run P w = .ok () w') (hk:K (a.put o.dst undef) w'):o.wp P a w K Q:=by
 unfold Oper.wp
 rw [he]
 simp only [Sem.run_bind,hr,Result.andThen_ok,Sem.run_pure]
 exact hk
theorem Rl.call (r:Rl nt w0 h0 fr bl a w h hd) (dst:Option Nat) (hdst:EB nt w0 dst) (cv:Value) (v:V) (hl:h.le h') (hle:h'.le (hw w')) (hb:∀ b,b < w.heap.size->h' b = h b) (hbel:Below w.heap.size w w') (hv:R3 h' hd bl cv v) :
  Rl nt w0 h0 (eN fr dst v) bl (a.put dst cv) w' h' hd:=by
 have hbase:=r.below.size
 refine r.put dst cv v hdst hl hle (fun b hb'=>hb b (Nat.lt_of_lt_of_le (b7.lt hb') hbase)) (AC.of hbase hbel) (Kp.refl _ _) ?_ r.sep hv
 intro id b hbl
 refine (r.blk id b hbl).keep hl (Kp.refl _ _) rfl fun hlv g hg=>?_
 have:=(r.blk id b hbl).num hlv hg
 exact ⟨hbel.block g this.2.1,fun q=>by rw [hb g this.2.1]; exact q⟩
theorem Rl.drew (r:Rl nt w0 h0 fr bl a w h hd):Rl nt w0 h0 fr bl a { w with drawn:=w.drawn + 1 } h hd where
 tmps:=r.tmps
 defers:=r.defers
 fixed:=r.fixed
 below:=r.below.drew
 hle:=r.hle
 h0le:=r.h0le
 hbase:=r.hbase
 frame:=r.frame
 blk:=fun id b hb=>(r.blk id b hb).keep (Hp.le.refl _) (Kp.refl _ _) rfl fun _ _ _=>⟨rfl,fun q=>q⟩
 sep:=r.sep
theorem JK (r:Rl nt w0 h0 fr bl a w h hd) {x:Option Operand} {y:Option bM} (e:aDj x = some y) :
  (∀ z,y.map (bL fr) = some z->∃ u,x.map a.eval = some u ∧ R3 h hd bl u z) ∧ (y.map (bL fr) = none->x.map a.eval = none):=by
 cases x with
 | none=>simp only [aDj,Option.some.injEq] at e; subst e; exact ⟨fun z hz=>(by cases hz),fun _=>rfl⟩
 | some x =>
  simp only [aDj,Option.map_eq_some_iff] at e
  obtain ⟨x',e1,rfl⟩:=e
  refine ⟨fun z hz=>?_,fun hz=>(by cases hz)⟩
  simp only [Option.map_some,Option.some.injEq] at hz
  subst hz
  exact ⟨_,rfl,aV r.frame e1⟩
theorem aTp {op:BinOp} {x y:V} {d:D} (e:BI 0 op x y = some d):(∃ k m n,x = .d (.int k m) ∧ y = .d (.int k n) ∧ qI op k m n = some d) ∨ ∃ m n,x = .d (.str m) ∧ y = .d (.str n) ∧ QK op m n = some d:=by
 unfold BI at e
 split at e
 ·split at e
  ·rename_i hk; subst hk; exact .inl ⟨_,_,_,rfl,rfl,e⟩
  ·cases e
 ·exact .inr ⟨_,_,rfl,rfl,e⟩
 all_goals (first | (cases e; done) | (simp_all; done))
theorem aTq {op:BinOp} {x y:V} {d:D} (e:BI 1 op x y = some d):∃ m n,x = .d (.bool m) ∧ y = .d (.bool n):=by
 unfold BI at e
 split at e <;> first | (simp_all; done) | exact ⟨_,_,rfl,rfl⟩
theorem Rl.thaw (r:Rl nt w0 h0 fr bl a w h hd) (dst:Option Nat) (hdst:EB nt w0 dst) (cv:Value) (v:V) (hl:h.le h') (hle:h'.le (hw w')) (hb:∀ b,b < w.heap.size->h' b = h b) (hbel:Below w.heap.size w w')
  (l:List (Nat × Option aI)) (hf:∀ p ∈ l,bl p.1 = none) (hlv:∀ p ∈ l,∃ b:aI,p.2 = some b ∧ b.live = true) (hd0:Nat->Value) (hv:R3 h' hd0 (bP (fun _=>none) l) cv v)
  (hB:∀ id b,bP (fun _=>none) l id = some b->BR (b7.of w) w' h' hd0 (bP (fun _=>none) l) id b)
  (hS:∀ i j bi bj g,bP (fun _=>none) l i = some bi->bP (fun _=>none) l j = some bj->fL (hd0 i) = some g->fL (hd0 j) = some g->i = j) :
  ∃ hd',Rl nt w0 h0 (eN fr dst v) (bP bl l) (a.put dst cv) w' h' hd':=by
 have hbase:=r.below.size
 have hcase:=aEJ hf
 have hlive:∀ id b,bP (fun _=>none) l id = some b->b.live = true:=fun id b hb=>by
  rcases hcase id with ⟨p,h1,h2,h3,h4⟩ | ⟨h3,h4⟩
  ·obtain ⟨b',h5,h6⟩:=hlv p h1
   rw [h4,h5] at hb; cases hb; exact h6
  ·rw [h4] at hb; cases hb
 let hd' : Nat->Value:=fun id=>if (bP (fun _=>none) l id).isSome = true then hd0 id else hd id
 have hnew:∀ id b,bP (fun _=>none) l id = some b->bP bl l id = some b ∧ hd' id = hd0 id:=fun id b hb=>by
  rcases hcase id with ⟨p,h1,h2,h3,h4⟩ | ⟨h3,h4⟩
  ·exact ⟨by rw [h3,← h4,hb],by simp [hd',hb]⟩
  ·rw [h4] at hb; cases hb
 have hold:∀ id b,bl id = some b->bP bl l id = some b ∧ hd' id = hd id:=fun id b hb=>by
  rcases hcase id with ⟨p,h1,h2,h3,h4⟩ | ⟨h3,h4⟩
  ·have:=hf p h1; rw [h2,hb] at this; cases this
  ·exact ⟨by rw [h3,hb],by simp [hd',h4]⟩
 have hcases:∀ id b,bP bl l id = some b->(bP (fun _=>none) l id = some b ∧ hd' id = hd0 id) ∨ (bl id = some b ∧ hd' id = hd id):=fun id b hb=>by
  rcases hcase id with ⟨p,h1,h2,h3,h4⟩ | ⟨h3,h4⟩
  ·have:bP (fun _=>none) l id = some b:=by rw [h4,← h3,hb]
   exact .inl ⟨this,(hnew id b this).2⟩
  ·rw [h3] at hb; exact .inr ⟨hb,(hold id b hb).2⟩
 have hk:Kp hd hd' bl (bP bl l):=fun id b hb=>by
  obtain ⟨q1,q2⟩:=hold id b hb
  refine ⟨b,q1,?_⟩
  cases b <;> simp [wT,q2]
 have hk0:Kp hd0 hd' (bP (fun _=>none) l) (bP bl l):=fun id b hb=>by
  obtain ⟨q1,q2⟩:=hnew id b hb
  refine ⟨b,q1,?_⟩
  cases b <;> simp [wT,q2]
 refine ⟨hd',r.put dst cv v hdst hl hle (fun b hb'=>hb b (Nat.lt_of_lt_of_le (b7.lt hb') hbase)) (AC.of hbase hbel) hk ?_ ?_ (hv.keep (Hp.le.refl _) hk0)⟩
 ·intro id b hid
  rcases hcases id b hid with ⟨q1,q2⟩ | ⟨q1,q2⟩
  ·exact ((hB id b q1).base (fun g hg=>.inl (Nat.le_trans hbase (b7.own_of hg))) (.inl (hlive id b q1))).keep (Hp.le.refl _) hk0 q2 fun _ g _=>⟨rfl,fun q=>q⟩
  ·refine (r.blk id b q1).keep hl hk q2 fun hlv g hg=>?_
   have:=(r.blk id b q1).num hlv hg
   exact ⟨hbel.block g this.2.1,fun q=>by rw [hb g this.2.1]; exact q⟩
 ·intro i j bi bj g hi hj li lj gi gj
  rcases hcases i bi hi with ⟨i1,i2⟩ | ⟨i1,i2⟩ <;> rcases hcases j bj hj with ⟨j1,j2⟩ | ⟨j1,j2⟩
  ·exact hS i j bi bj g i1 j1 (i2 ▸ gi) (j2 ▸ gj)
  ·have h1:=b7.own_of ((hB i bi i1).num (hlive i bi i1) (i2 ▸ gi)).1
   have h2:=((r.blk j bj j1).num lj (j2 ▸ gj)).2.1
   omega
  ·have h1:=b7.own_of ((hB j bj j1).num (hlive j bj j1) (j2 ▸ gj)).1
   have h2:=((r.blk i bi i1).num li (i2 ▸ gi)).2.1
   omega
  ·exact r.sep i j bi bj g i1 j1 li lj (i2 ▸ gi) (j2 ▸ gj)
theorem aJL (bl:Nat->Option aI) (a b:List (Nat × Option aI)):bP bl (a ++ b) = bP (bP bl b) a:=by
 funext id
 unfold bP
 induction a with
 | nil=>rfl
 | cons p a ih =>
  obtain ⟨i,x⟩:=p
  simp only [List.cons_append,lk]
  rw [ih]
theorem UN (r:Rl nt w0 h0 fr bl a w h hd) {f:Nat} {ds:List D} {x:D} (hS:CF P f ds x) {o:Oper} (hdst:EB nt w0 o.dst) {vs:Array Value} (hexec:(execOp a.eval o).run P w = .ok (.enter f vs) w)
  {wr wr' : List (Nat × Option aI)} {site:Nat} {v' : V} (hcr:oB site bl wr x = some (v',wr')) (hok:uT bl wr) (hsz:vs.size = ds.length) (hrd:∀ (i:Nat) (d:D),ds[i]? = some d->aT (GO w h hd wr) (vs.getD i undef) d) {K:Act->World->Prop} {Q:Exit->Act->World->Prop}
  (hK:∀ a' w' h' hd',Rl nt w0 h0 (eN fr o.dst v') (bP bl wr') a' w' h' hd'->K a' w'):o.wp P a w K Q:=by
 have hS:=hS.2 w (GO w h hd wr) vs (LL r _) hsz hrd
 unfold Oper.wp
 rw [hexec]
 simp only [Oper.upon]
 refine hS.mono ?_
 rintro e w' ⟨cv,h',rfl,g1,g2,g3,g4,g5⟩
 simp only
 by_cases hx:∃ y es rs,x = .own y es rs
 ·obtain ⟨y,es,rs,rfl⟩:=hx
  simp only [oB] at hcr
  split at hcr
  ·rename_i hfree
   cases hcr
   obtain ⟨hd0,q1,q2,q3⟩:=g1 site
   have hf:∀ p ∈ fV site 0 es rs,bP bl wr p.1 = none:=fun p hp=>aD8 hok (QH hfree p hp)
   obtain ⟨hd',r'⟩:=(r.freeze _ hok).thaw o.dst hdst cv _ g2 g3 g4 g5 _ hf (E4 site es rs 0) hd0 q1 q2 q3
   rw [← aJL] at r'
   exact hK _ _ h' hd' r'
  ·cases hcr
 ·have hx:∀ y es rs,x ≠ .own y es rs:=fun y es rs e=>hx ⟨y,es,rs,e⟩
  rw [EF hx] at hcr
  rw [aE2 hx] at g1
  cases hcr
  by_cases hfl:IA x = true
  ·rw [if_pos hfl] at hK
   refine hK _ _ h hd (r.call o.dst hdst cv (toV x) (Hp.le.refl _) ?_ (fun _ _=>rfl) g5 (aBK (BG g1 hfl h)))
   intro b ob hb
   exact (g5.block b (Array.getElem?_eq_some_iff.1 (r.hle b ob hb)).1).trans (r.hle b ob hb)
  ·rw [if_neg hfl] at hK
   exact hK _ _ h' hd ((r.freeze _ hok).call o.dst hdst cv (toV x) g2 g3 g4 g5 (aBK g1))
theorem aJ7 (r:Rl nt w0 h0 fr bl a w h hd) {op:BinOp} {t:TypeId} {x y:Operand} {so:fU} (hlow:N4 P op t x y = some so) {C:Nat->List D->Option D} {site:Nat} {v:V} {wr:List (Nat × Option aI)} (ha:cJ C site (bL fr) bl so = some (v,wr)) :
  ∃ d,v = .d d ∧ wr = [] ∧ ∃ cv,((do eqGuard op t x y (a.eval x) (a.eval y); binOp op t (a.eval x) (a.eval y)):Sem Value).run P w = .ok cv w ∧ aT h cv d ∧ d.atom = true:=by
 unfold N4 at hlow
 split at hlow
 ·rename_i x' y' h1 h2
  have hx:=aV r.frame h1
  have hy:=aV r.frame h2
  have fin:∀ (d:D),v = .d d->wr = []->(∃ cv,((do eqGuard op t x y (a.eval x) (a.eval y); binOp op t (a.eval x) (a.eval y)):Sem Value).run P w = .ok cv w ∧ aT h cv d ∧ d.atom = true)->∃ d,v = .d d ∧ wr = [] ∧ ∃ cv,((do eqGuard op t x y (a.eval x) (a.eval y); binOp op t (a.eval x) (a.eval y)):Sem Value).run P w = .ok cv w ∧ aT h cv d ∧ d.atom = true:=fun d h1 h2 h3=>⟨d,h1,h2,h3⟩
  have res:∀ (z:Option D),J1.v z = some (v,wr)->∃ d,z = some d ∧ v = .d d ∧ wr = []:=by
   intro z hz
   simp only [J1.v,Option.map_eq_some_iff] at hz
   obtain ⟨d,e1,e2⟩:=hz
   cases e2
   exact ⟨d,e1,rfl,rfl⟩
  have zero:∀ (d:D),BI 0 op (bL fr x') (bL fr y') = some d->∃ cv,((do eqGuard op t x y (a.eval x) (a.eval y); binOp op t (a.eval x) (a.eval y)):Sem Value).run P w = .ok cv w ∧ aT h cv d ∧ d.atom = true:=by
   intro d e
   generalize bL fr x' = xx at hx e
   generalize bL fr y' = yy at hy e
   rcases aTp e with ⟨k,m,n,rfl,rfl,e'⟩ | ⟨m,n,rfl,rfl,e'⟩
   ·rw [lC hx,lC hy]; exact aCp e'
   ·rw [(CA hx).1,(CA hy).1]; exact aCj e'
  split at hlow <;> first | (cases hlow; done) | skip
  split at hlow
  ·cases hlow
   simp only [cJ] at ha
   obtain ⟨d,e1,e2,e3⟩:=res _ ha
   exact fin d e2 e3 (zero d e1)
  ·cases hlow
   simp only [cJ] at ha
   obtain ⟨d,e1,e2,e3⟩:=res _ ha
   exact fin d e2 e3 (zero d e1)
  ·rename_i hu
   cases hlow
   simp only [cJ] at ha
   obtain ⟨d,e1,e2,e3⟩:=res _ ha
   refine fin d e2 e3 ?_
   generalize bL fr x' = xx at hx e1
   generalize bL fr y' = yy at hy e1
   obtain ⟨m,n,rfl,rfl⟩:=aTq e1
   rw [jR hx,jR hy]; exact aAO hu e1
  ·rename_i fs hu
   cases hq:F5 P 20 t with
   | none=>simp only [hq] at hlow; (first | (cases hlow; done) | (split at hlow <;> cases hlow))
   | some ks =>
    simp only [hq] at hlow
    cases op <;> dsimp only at hlow <;> first | (cases hlow; done) | skip
    ·split at hlow
     ·rename_i hg
      cases hlow
      simp only [cJ] at ha
      obtain ⟨d,e1,e2,e3⟩:=res _ ha
      exact fin d e2 e3 (aD0 (neg:=false) hq hu hg hx hy e1 x y)
     ·cases hlow
    ·split at hlow
     ·rename_i hg
      cases hlow
      simp only [cJ] at ha
      obtain ⟨d,e1,e2,e3⟩:=res _ ha
      exact fin d e2 e3 (aD0 (neg:=true) hq hu hg hx hy e1 x y)
     ·cases hlow
  ·rename_i hu
   split at hlow <;> first | (cases hlow; done) | skip
   ·cases hlow
    simp only [cJ] at ha
    obtain ⟨d,e1,e2,e3⟩:=res _ ha
    exact fin d e2 e3 (U6 (neg:=false) r hu hx hy e1 x y)
   ·cases hlow
    simp only [cJ] at ha
    obtain ⟨d,e1,e2,e3⟩:=res _ ha
    exact fin d e2 e3 (U6 (neg:=true) r hu hx hy e1 x y)
  ·rename_i hu
   split at hlow <;> first | (cases hlow; done) | skip
   ·cases hlow
    simp only [cJ] at ha
    obtain ⟨d,e1,e2,e3⟩:=res _ ha
    exact fin d e2 e3 (Y1 (neg:=false) hu hx hy e1 x y)
   ·cases hlow
    simp only [cJ] at ha
    obtain ⟨d,e1,e2,e3⟩:=res _ ha
    exact fin d e2 e3 (Y1 (neg:=true) hu hx hy e1 x y)
  ·cases hlow
 ·cases hlow
theorem UW {bl:Nat->Option aI} {t:Nat}:∀ {vs:List V} {i:Nat} {ds:List D},D0 bl t i vs = some ds->vs.length = ds.length ∧ ∀ (j:Nat) (v:V),vs[j]? = some v->∃ d,ds[j]? = some d ∧ (if i + j = t then M6 bl v else iY bl v) = some d
 | [],i,ds,h=>by simp [D0] at h; subst h; simp
 | v :: r,i,ds,h=>by
  simp only [D0] at h
  split at h
  ·cases h
  ·rename_i d hd
   split at h
   ·cases h
   ·rename_i ds' hds
    cases h
    obtain ⟨h1,h2⟩:=UW hds
    refine ⟨by simp [h1],fun j u hj=>?_⟩
    cases j with
    | zero=>simp only [List.getElem?_cons_zero,Option.some.injEq] at hj; subst hj; exact ⟨d,rfl,hd⟩
    | succ j =>
     obtain ⟨d',q1,q2⟩:=h2 j u (by simpa using hj)
     refine ⟨d',by simpa using q1,?_⟩
     rw [show i + (j + 1) = i + 1 + j by omega]
     exact q2
theorem UG {bl:Nat->Option aI} {t:Nat}:∀ (vs:List V) (i:Nat),uT bl (tH bl t i vs)
 | [],i=>by intro p hp; simp [tH] at hp
 | v :: r,i=>by
  have key:uT bl ((if i = t then [] else [v]).flatMap (vX bl) ++ tH bl t (i + 1) r):=by
   intro p hp
   rcases List.mem_append.1 hp with q | q
   ·rcases uT.flatMap (bl:=bl) (if i = t then [] else [v]) (fun z=>z) p q with h | ⟨cs,ds,h1,h2,h3,h4⟩ | h
    ·exact .inl h
    ·exact .inr (.inl ⟨cs,ds,h1,h2,h3,fun x hx=>List.mem_append.2 (.inl (h4 x hx))⟩)
    ·exact .inr (.inr h)
   ·rcases UG r (i + 1) p q with h | ⟨cs,ds,h1,h2,h3,h4⟩ | h
    ·exact .inl h
    ·exact .inr (.inl ⟨cs,ds,h1,h2,h3,fun x hx=>List.mem_append.2 (.inr (h4 x hx))⟩)
    ·exact .inr (.inr h)
  simp only [tH]
  by_cases e:i = t
  ·simpa [e] using key
  ·simpa [e] using key
theorem RF {bl:Nat->Option aI} {t:Nat}:∀ (vs:List V) (i j:Nat) (v:V),vs[j]? = some v->i + j ≠ t->∀ p ∈ vX bl v,p ∈ tH bl t i vs
 | [],i,j,v,h,_,p,hp=>by simp at h
 | u :: r,i,0,v,h,hn,p,hp=>by
  simp only [List.getElem?_cons_zero,Option.some.injEq] at h
  subst h
  simp only [tH,if_neg (show ¬ i = t by omega)]
  exact List.mem_append.2 (.inl hp)
 | u :: r,i,j + 1,v,h,hn,p,hp=>by
  simp only [tH]
  exact List.mem_append.2 (.inr (RF r (i + 1) j v (by simpa using h) (by omega) p hp))
theorem XM {size:Nat} {rows:List (List D)} {xs:List Value} (r:iI h size rows xs) (hf:pE rows = true) (k:Hp):iI k size rows xs:=fun i row hi =>
 ⟨(r i row hi).1,fun j x hx=>⟨((r i row hi).2 j x hx).1,by
  obtain ⟨u,h1,h2⟩:=((r i row hi).2 j x hx).2
  have h3:=List.all_eq_true.1 (List.all_eq_true.1 hf row (List.mem_of_getElem? hi)) x (List.mem_of_getElem? hx)
  refine ⟨u,h1,BG h2 ?_ k⟩
  cases x <;> first | rfl | cases h3⟩⟩
theorem I5 (r:Rl nt w0 h0 fr bl a w h hd) {v:Value} {x:V} (h3:R3 h hd bl v x) {d:D} (e:iY bl x = some d):QY d = none:=by
 have:aT (GO w h hd (vX bl x)) v d:=by
  refine oD r _ ?_ e fun p hp=>hp
  cases x with
  | tup vs=>cases e
  | _=>exact h3
 exact R9 this
theorem LP {o:Oper} {f:Nat} {args:List bM} (h:xJ P o = .call f args) :
  ∃ (c:Call) (fn:Func),o.op = .call c ∧ c.callee = .value (.func f) ∧ P.funcs[f]? = some fn ∧ aK gX c.args.toList = some args ∧ fn.name ≠ "runtime.NumGoroutine" ∧ fn.body.isSome = true:=by
 unfold xJ at h
 cases hl:CY P o with
 | none=>rw [hl] at h; cases h
 | some so =>
  rw [hl] at h
  simp only [Option.getD_some] at h
  subst h
  unfold CY at hl
  cases hop:o.op with
  | call c =>
   rw [hop] at hl
   simp only at hl
   split at hl
   ·rename_i f' hcal
    split at hl
    ·rename_i fn args' hfn hl'
     split at hl
     ·rename_i hc
      cases hl
      exact ⟨c,fn,rfl,hcal,hfn,hl',hc.1,hc.2⟩
     ·cases hl
    ·cases hl
   all_goals repeat' (first | (cases hl; done) | (rw [Option.map_eq_some_iff] at hl; obtain ⟨_,_,e⟩:=hl; cases e; done) | split at hl)
  | _ =>
   rw [hop] at hl
   simp only at hl
   try unfold N4 at hl
   repeat' (first | (cases hl; done) | (rw [Option.map_eq_some_iff] at hl; obtain ⟨_,_,e⟩:=hl; cases e; done) | split at hl)
theorem aDC {o:Oper} {f:Nat} {caps:List bM} (h:xJ P o = .mkfn f caps) :
  ∃ captured:Array Operand,o.op = .makeFunc (.func f) #[] captured ∧ aK gX captured.toList = some caps:=by
 unfold xJ at h
 cases hl:CY P o with
 | none=>rw [hl] at h; cases h
 | some so =>
  rw [hl] at h
  simp only [Option.getD_some] at h
  subst h
  unfold CY at hl
  cases hop:o.op with
  | makeFunc fn first captured =>
   rw [hop] at hl
   simp only at hl
   split at hl
   ·split at hl
    ·rename_i hf
     rw [Option.map_eq_some_iff] at hl
     obtain ⟨caps',h1,e⟩:=hl
     cases e
     have hfe:first = #[]:=by simpa using hf
     subst hfe
     exact ⟨captured,rfl,h1⟩
    ·cases hl
   ·cases hl
  | _ =>
   rw [hop] at hl
   simp only at hl
   try unfold N4 at hl
   repeat' (first | (cases hl; done) | (rw [Option.map_eq_some_iff] at hl; obtain ⟨_,_,e⟩:=hl; cases e; done) | split at hl)
theorem aKx {C:Nat->List D->Option D} (r:Rl nt w0 h0 fr bl a w h hd) (o:Oper) {f:Nat} {caps:List bM} (hlow:xJ P o = .mkfn f caps) (hdst:EB nt w0 o.dst)
  {site:Nat} {v:V} {wr:List (Nat × Option aI)} (ha:cJ C site (bL fr) bl (.mkfnv f caps) = some (v,wr)) {K:Act->World->Prop} {Q:Exit->Act->World->Prop}
  (hK:∀ a' w' h' hd',Rl nt w0 h0 (eN fr o.dst v) (bP bl wr) a' w' h' hd'->K a' w'):o.wp P a w K Q:=by
 obtain ⟨captured,hop,hl⟩:=aDC hlow
 obtain ⟨m1,m2⟩:=bJ hl
 simp only [cJ] at ha
 split at ha
 ·rename_i hall
  cases ha
  refine dW (s:=Instr.makeFunc (.func f) #[] (captured.map a.eval)) (cv:=.func (.func f) #[] (captured.map a.eval)) (w':=w) (by simp [execOp,hop]) (by simp [Instr.makeFunc]) (hK _ _ _ _ (r.put0 o.dst _ _ hdst ⟨captured.map a.eval,rfl,by simpa using m1,fun j x hx=>?_⟩))
  have hb:=List.all_eq_true.1 hall x (List.mem_of_getElem? hx)
  rw [List.getElem?_map,Option.map_eq_some_iff] at hx
  obtain ⟨y,hy,rfl⟩:=hx
  obtain ⟨z,z1,z2⟩:=bY hl hy
  have z1' : captured[j]? = some z:=by simpa using z1
  have e3:(captured.map a.eval).getD j undef = a.eval z:=by simp [z1']
  rw [e3]
  have h3:=aV r.frame z2
  generalize bL fr y = yy at h3 hb
  cases yy with
  | ptr id off=>exact h3
  | _=>cases hb
 ·cases ha
theorem Rl.lent (r:Rl nt w0 h0 fr bl a w h hd) (dst:Option Nat) (hdst:EB nt w0 dst) (cv:Value) {y:D} {id ver e size:Nat} {rows rows' : List (List D)} (hb:bl id = some (.rows ver e size rows)) {t:Nat} (hbel:AC (b7.lent w t (hd id)) w w')
  (hl:ZO w' h' (hd id) e size rows') (hy:aT h' cv y) (hf:IA y = true) (hfr:pE rows' = true) :
  Rl nt w0 h0 (eN fr dst (toV y)) (bP bl [(id,some (.rows ver e size rows'))]) (a.put dst cv) w' h hd:=by
 obtain ⟨l1,l2,⟨xs,l3,l4⟩,l5⟩:=hl
 have hbs:=r.below.size
 have hnum:∀ g,fL (hd id) = some g->w0.own g ∧ g < w.heap.size ∧ h g = none:=fun g hg=>(r.blk id _ hb).num rfl hg
 have hbel0:AC w0 w w':=⟨hbel.os,hbel.tape,hbel.output,hbel.size,fun k hk=>hbel.block k fun q=>by
  rcases q with q | q
  ·exact hk (.inl (Nat.le_trans hbs q))
  ·exact hk (hnum k q).1⟩
 have hsame:∀ g,g < w.heap.size->fL (hd id) ≠ some g->w'.heap[g]? = w.heap[g]?:=fun g hg hn=>hbel.block g fun q=>by
  rcases q with q | q
  ·exact absurd (show w.heap.size <= g from q) (by omega)
  ·exact hn q
 have hle:h.le (hw w'):=fun b o hbo=>by
  have h1:=r.hle b o hbo
  refine (hsame b (Array.getElem?_eq_some_iff.1 h1).1 fun q=>?_).trans h1
  rw [(hnum b q).2.2] at hbo; cases hbo
 have hk:Kp hd hd bl (bP bl [(id,some (.rows ver e size rows'))]):=by
  intro j c hj
  by_cases ej:j = id
  ·subst ej; rw [hb] at hj; cases hj; exact ⟨_,m7 _ _ _,.inl ⟨rfl,rfl,rfl,rfl⟩⟩
  ·exact ⟨c,by rw [wH _ _ ej]; exact hj,wT.refl hd j c⟩
 refine r.put dst cv (toV y) hdst (Hp.le.refl _) hle (fun _ _=>rfl) hbel0 hk ?_ ?_ (aBK (BG hy hf h))
 ·intro j c hj
  by_cases ej:j = id
  ·subst ej
   rw [m7] at hj
   cases hj
   exact ⟨l1,l2,⟨xs,l3,XM l4 hfr h⟩,fun g hg=>⟨(hnum g hg).2.2,(hnum g hg).1⟩⟩
  ·rw [wH _ _ ej] at hj
   refine (r.blk j c hj).keep (Hp.le.refl _) hk rfl fun hlv g hg=>⟨hsame g ((r.blk j c hj).num hlv hg).2.1 fun q=>ej (r.sep j id c _ g hj hb hlv rfl hg q),fun q=>q⟩
 ·intro i j bi bj g hi hj li lj gi gj
  have back:∀ k c,bP bl [(id,some (.rows ver e size rows'))] k = some c->c.live = true->∃ c',bl k = some c' ∧ c'.live = true:=by
   intro k c hkc hlc
   by_cases ek:k = id
   ·subst ek; exact ⟨_,hb,rfl⟩
   ·rw [wH _ _ ek] at hkc; exact ⟨c,hkc,hlc⟩
  obtain ⟨b1,q1,q2⟩:=back i bi hi li
  obtain ⟨b2,q3,q4⟩:=back j bj hj lj
  exact r.sep i j b1 b2 g q1 q3 q2 q4 gi gj
theorem aRs {C:Nat->List D->Option D} (hC:qK P C) (r:Rl nt w0 h0 fr bl a w h hd) (o:Oper) {so:fU} (hlow:CY P o = some so) (hdst:EB nt w0 o.dst)
  {site:Nat} {v:V} {wr:List (Nat × Option aI)} (ha:cJ C site (bL fr) bl so = some (v,wr)) {K:Act->World->Prop} {Q:Exit->Act->World->Prop}
  (hK:∀ a' w' h' hd',Rl nt w0 h0 (eN fr o.dst v) (bP bl wr) a' w' h' hd'->K a' w'):o.wp P a w K Q:=by
 unfold CY at hlow
 split at hlow
 ·-- move
  rename_i x hop
  rw [Option.map_eq_some_iff] at hlow
  obtain ⟨y,h1,rfl⟩:=hlow
  simp only [cJ] at ha
  cases ha
  exact dW (s:=pure (a.eval x)) (by simp [execOp,hop]) (by simp) (hK _ _ _ _ (r.put0 o.dst _ _ hdst (aV r.frame h1)))
 ·rename_i x hop
  rw [Option.map_eq_some_iff] at hlow
  obtain ⟨y,h1,rfl⟩:=hlow
  simp only [cJ] at ha
  cases ha
  exact dW (s:=pure (a.eval x)) (by simp [execOp,hop]) (by simp) (hK _ _ _ _ (r.put0 o.dst _ _ hdst (aV r.frame h1)))
 ·-- pick
  rename_i c x y hop
  split at hlow
  ·rename_i c' x' y' h1 h2 h3
   cases hlow
   simp only [cJ] at ha
   have hc:=aV r.frame h1
   split at ha
   ·rename_i hb
    cases ha
    rw [hb] at hc
    exact dW (s:=pure (a.eval x)) (by simp [execOp,hop,jR hc,asBool]) (by simp) (hK _ _ _ _ (r.put0 o.dst _ _ hdst (aV r.frame h2)))
   ·rename_i hb
    cases ha
    rw [hb] at hc
    exact dW (s:=pure (a.eval y)) (by simp [execOp,hop,jR hc,asBool]) (by simp) (hK _ _ _ _ (r.put0 o.dst _ _ hdst (aV r.frame h3)))
   ·cases ha
  ·cases hlow
 ·-- alloc
  rename_i e hop
  split at hlow
  ·rename_i i hi
   split at hlow
   ·rename_i z hz
    rw [Option.map_eq_some_iff] at hlow
    obtain ⟨zs,h1,rfl⟩:=hlow
    simp only [cJ] at ha
    split at ha
    ·rename_i hs
     cases ha
     obtain ⟨z1,z2⟩:=B6 (h:=h) (hd:=hd) (bl:=bl) h1
     obtain ⟨cv,w',hd',q1,q2⟩:=RZ (P:=P) r o.dst hdst site hs e z zs z1 z2
     refine dW (s:=Instr.alloc e true (.tuple #[])) (by simp [execOp,hop]) (cv:=cv) (w':=w') ?_ (hK _ _ _ _ q2)
     simpa [Instr.alloc,zeroValue,lH hi,hz,Result.andThen] using q1
    ·cases ha
   ·cases hlow
  ·cases hlow
 ·-- box
  rename_i e x hop
  rw [Option.map_eq_some_iff] at hlow
  obtain ⟨y,h1,rfl⟩:=hlow
  simp only [cJ] at ha
  split at ha
  ·rename_i hs
   split at ha
   ·rename_i hk
    cases ha
    obtain ⟨z1,z2⟩:=DY (aV r.frame h1) hk
    obtain ⟨cv,w',hd',q1,q2⟩:=RZ (P:=P) r o.dst hdst site hs e (a.eval x) _ z1 z2
    exact dW (s:=Instr.box e (a.eval x)) (by simp [execOp,hop]) (by simpa [Instr.box] using q1) (hK _ _ _ _ q2)
   ·cases ha
  ·cases ha
 ·-- build
  rename_i t parts hop
  split at hlow
  ·rename_i i fs hi hu
   split at hlow
   ·rename_i z hz
    split at hlow
    ·rename_i zs ps h1 h2
     split at hlow
     ·rename_i hf
      cases hlow
      simp only [cJ] at ha
      rw [Option.map_eq_some_iff] at ha
      obtain ⟨cs,q1,q2⟩:=ha
      cases q2
      obtain ⟨cv,q3,q4⟩:=aGl r hi hu hz h1 hf h2 q1
      refine dW (s:=Instr.build t (parts.map fun (i,x)=>(i,a.eval x))) (by simp [execOp,hop]) (cv:=cv) (w':=w) ?_ (hK _ _ _ _ (r.put0 o.dst _ _ hdst q4))
      have e:(parts.map fun x=>(x.1,a.eval x.2)) = (parts.toList.map fun x=>(x.1,a.eval x.2)).toArray:=by obtain ⟨l⟩:=parts; simp
      exact (congrArg (fun q=>(Instr.build t q).run P w) e).trans q3
     ·cases hlow
    ·cases hlow
   ·cases hlow
  ·rename_i i n e hi hu
   split at hlow
   ·rename_i z ei hz he
    split at hlow
    ·rename_i zs ps h1 h2
     cases hlow
     simp only [cJ] at ha
     rw [Option.map_eq_some_iff] at ha
     obtain ⟨cs,q1,q2⟩:=ha
     cases q2
     obtain ⟨cv,q3,q4⟩:=aCg r hi hu hz he h1 h2 q1
     refine dW (s:=Instr.build t (parts.map fun (i,x)=>(i,a.eval x))) (by simp [execOp,hop]) (cv:=cv) (w':=w) ?_ (hK _ _ _ _ (r.put0 o.dst _ _ hdst q4))
     have e:(parts.map fun x=>(x.1,a.eval x.2)) = (parts.toList.map fun x=>(x.1,a.eval x.2)).toArray:=by obtain ⟨l⟩:=parts; simp
     exact (congrArg (fun q=>(Instr.build t q).run P w) e).trans q3
    ·cases hlow
   ·cases hlow
  ·cases hlow
 ·-- buildSlice
  rename_i t len parts hop
  split at hlow
  ·rename_i e ht
   split at hlow
   ·rename_i i hi
    split at hlow
    ·rename_i z hz
     split at hlow
     ·rename_i zs h1
      split at hlow
      ·rename_i row ps h2 h3
       split at hlow
       ·rename_i hc
        obtain ⟨c1,c2,c3⟩:=hc
        cases hlow
        obtain ⟨cv,w',h',hd',q1,q2⟩:=QM r ht hi hz h1 h2 c1 c2 c3 h3 o.dst hdst ha
        refine dW (s:=Instr.buildSlice t len (parts.map fun (i,x)=>(i,a.eval x))) (by simp [execOp,hop]) (cv:=cv) (w':=w') ?_ (hK _ _ _ _ q2)
        have e:(parts.map fun x=>(x.1,a.eval x.2)) = (parts.toList.map fun x=>(x.1,a.eval x.2)).toArray:=by obtain ⟨l⟩:=parts; simp
        exact (congrArg (fun q=>(Instr.buildSlice t len q).run P w) e).trans q1
       ·cases hlow
      ·cases hlow
     ·cases hlow
    ·cases hlow
   ·cases hlow
  ·cases hlow
 ·-- load
  rename_i t x hop
  split at hlow
  ·rename_i b i x' h1 h2 h3
   cases hlow
   obtain ⟨rfl,cv,q1,q2⟩:=aEr r h1 h2 (aV r.frame h3) ha
   exact dW (s:=Instr.loadAt t (a.eval x)) (by simp [execOp,hop]) q1 (hK _ _ _ _ (r.put0 o.dst _ _ hdst q2))
  ·cases hlow
 ·-- store
  rename_i t x y hop
  split at hlow
  ·rename_i i x' y' h1 h2 h3
   cases hlow
   have hx:=aV r.frame h2
   have hy:=aV r.frame h3
   simp only [cJ] at ha
   split at ha
   ·rename_i id off hev
    rw [hev] at hx
    split at ha
    ·rename_i cs hb
     split at ha
     ·rename_i hc
      obtain ⟨c1,c2,c3⟩:=hc
      cases ha
      obtain ⟨w',hd',q1,q2⟩:=aAd r h1 hx hy hb c1 c2 c3 o.dst hdst undef
      exact I0 (s:=Instr.storeAt t (a.eval x) (a.eval y)) (by simp [execOp,hop]) q1 (hK _ _ _ _ q2)
     ·cases ha
    ·cases ha
   ·rename_i id ver ii off hev
    rw [hev] at hx
    split at ha
    ·rename_i w1 e sz rows hb
     split at ha
     ·rename_i hv
      subst hv
      split at ha
      ·rename_i row ds hrow hds
       split at ha
       ·rename_i hc
        obtain ⟨c1,c2,hfz⟩:=hc
        cases ha
        obtain ⟨w',h',hd',q1,q2⟩:=ZB r h1 hx hy hb hrow hds hfz c1 c2 o.dst hdst undef
        exact I0 (s:=Instr.storeAt t (a.eval x) (a.eval y)) (by simp [execOp,hop]) q1 (hK _ _ _ _ q2)
       ·cases ha
      ·cases ha
     ·cases ha
    ·cases ha
   ·cases ha
  ·cases hlow
 ·-- nilCheck
  rename_i x hop
  rw [Option.map_eq_some_iff] at hlow
  obtain ⟨y,h1,rfl⟩:=hlow
  have hx:=aV r.frame h1
  simp only [cJ] at ha
  have key:∀ (ad:Addr),a.eval x = .pointer (some ad)->R3 h hd bl (a.eval x) v->wr = []->o.wp P a w K Q:=by
   intro ad he hv hw
   subst hw
   exact dW (s:=pure (a.eval x)) (by simp [execOp,hop,he]) (by simp) (hK _ _ _ _ (r.put0 o.dst _ _ hdst hv))
  split at ha
  ·rename_i id off hev
   cases ha
   rw [hev] at hx
   obtain ⟨_,g,_,e⟩:=M8 hx
   exact key _ e hx rfl
  ·rename_i row off hev
   cases ha
   rw [hev] at hx
   have hx2:=hx
   obtain ⟨_,hr⟩ : D.atom _ = true ∧ aT h (a.eval x) (.ptr row off):=hx
   generalize hq:a.eval x = q at hr
   cases hr with
   | ptr b o1 off n row cv hn hm hr ho=>exact key _ hq hx2 rfl
  ·rename_i id ver ii off hev
   rw [hev] at hx
   split at ha
   ·rename_i v1 e s rows hb
    split at ha
    ·rename_i hv
     cases ha
     subst hv
     have hx2:=hx
     obtain ⟨b,c,hb',hc,hle,h1',he⟩ : ∃ b c,bl id = some b ∧ b.ver? = some c ∧ ver <= c ∧ (a.eval x).oneCell' = true ∧ ∀ e size rows,b = .rows ver e size rows->∃ g b n c,hd id = .slice (some ⟨g,b,none⟩) n c ∧ a.eval x = .pointer (some ⟨g,b + (ii * size + off),none⟩):=hx
     rw [hb] at hb'
     cases hb'
     obtain ⟨g,_,n,c',_,e1⟩:=he e s rows rfl
     exact key _ e1 hx2 rfl
    ·cases ha
   ·cases ha
  ·cases ha
 ·-- binOp
  rename_i op t x y yt hop
  obtain ⟨d,rfl,rfl,cv,q1,q2,q3⟩:=aJ7 r hlow ha
  exact dW (s:=do eqGuard op t x y (a.eval x) (a.eval y); binOp op t (a.eval x) (a.eval y)) (by simp [execOp,hop]) q1 (hK _ _ _ _ (r.put0 o.dst _ _ hdst ⟨q3,q2⟩))
 ·-- unOp
  rename_i op t x hop
  rw [Option.map_eq_some_iff] at hlow
  obtain ⟨y,h1,rfl⟩:=hlow
  simp only [cJ,J1.v,Option.map_eq_some_iff] at ha
  obtain ⟨d,e1,e2⟩:=ha
  cases e2
  obtain ⟨cv,q1,q2,q3⟩:=aSt (P:=P) (w:=w) (aV r.frame h1) e1
  exact dW (s:=Op.unary op (a.eval x)) (by simp [execOp,hop]) q1 (hK _ _ _ _ (r.put0 o.dst _ _ hdst ⟨q3,q2⟩))
 ·-- convert
  rename_i s d x hop
  split at hlow
  ·rename_i k1 k x' h1 h2 h3
   cases hlow
   have hx:=aV r.frame h3
   simp only [cJ] at ha
   split at ha
   ·rename_i k2 n hev
    cases ha
    rw [hev] at hx
    refine dW (s:=convert s d (a.eval x)) (by simp [execOp,hop]) (cv:=.int k (k.wrap n)) (w':=w) ?_ (hK _ _ _ _ (r.put0 o.dst _ _ hdst ⟨rfl,.int _ _⟩))
    rw [lC hx]
    simp [convert,run_underlying h1,run_underlying h2,Conv.intToInt]
   ·cases ha
  ·rename_i e x' h1 h2 h3
   split at hlow
   ·rename_i he
    cases hlow
    have hx:=aV r.frame h3
    simp only [cJ] at ha
    split at ha
    ·rename_i str hev
     cases ha
     rw [hev] at hx
     obtain ⟨cv,w',h',q1,q2,q3,q4,q5,q6⟩:=aFa r h1 h2 he str
     exact dW (s:=convert s d (a.eval x)) (by simp [execOp,hop]) (cv:=cv) (w':=w') (by rw [(CA hx).1]; exact q1) (hK _ _ _ _ (r.call o.dst hdst cv _ q2 q3 q4 q5 ⟨rfl,q6⟩))
    ·cases ha
   ·cases hlow
  ·cases hlow
 ·-- slice
  rename_i t x lo hi mx hop
  split at hlow
  ·cases hlow
  ·split at hlow
   ·rename_i e x' lo' hi' ht hx hlo hhi
    rw [Option.map_eq_some_iff] at hlow
    obtain ⟨i,hi1,rfl⟩:=hlow
    simp only [cJ] at ha
    obtain ⟨l1,l2⟩:=JK r hlo
    obtain ⟨m1,m2⟩:=JK r hhi
    obtain ⟨cv,h',hd',q1,q2⟩:=aF9 r ht hi1 (aV r.frame hx) l1 m1 l2 m2 o.dst hdst ha
    exact dW (s:=Instr.sliceAt t (a.eval x) (lo.map a.eval) (hi.map a.eval) none) (by simp [execOp,hop]) q1 (hK _ _ _ _ q2)
   ·rename_i x' lo' hi' ht hx hlo hhi
    cases hlow
    simp only [cJ] at ha
    obtain ⟨l1,l2⟩:=JK r hlo
    obtain ⟨m1,m2⟩:=JK r hhi
    obtain ⟨rfl,cv,q1,q2⟩:=VC (P:=P) (w:=w) ht (aV r.frame hx) l1 m1 l2 m2 ha
    exact dW (s:=Instr.sliceAt t (a.eval x) (lo.map a.eval) (hi.map a.eval) none) (by simp [execOp,hop]) q1 (hK _ _ _ _ (r.put0 o.dst _ _ hdst q2))
   ·cases hlow
 ·-- fieldAddr
  rename_i s x f hop
  split at hlow
  ·rename_i fs x' hs hx
   split at hlow
   ·rename_i fd hf
    split at hlow
    ·rename_i i hi
     split at hlow
     ·cases hlow
     ·rename_i hz
      cases hlow
      obtain ⟨rfl,cv,q1,q2⟩:=aHp r hs hf hi hz (aV r.frame hx) ha
      exact dW (s:=Instr.fieldAt s (a.eval x) f) (by simp [execOp,hop]) q1 (hK _ _ _ _ (r.put0 o.dst _ _ hdst q2))
    ·cases hlow
   ·cases hlow
  ·cases hlow
 ·-- field
  rename_i s x f hop
  split at hlow
  ·rename_i fs x' hs hx
   split at hlow
   ·rename_i fd hf
    split at hlow
    ·rename_i i b hi hb
     cases hlow
     have hxr:=aV r.frame hx
     simp only [cJ] at ha
     split at ha
     ·rename_i cs hev
      rw [hev] at hxr
      obtain ⟨arr,he,h1,h2⟩:=LS hxr
      obtain ⟨rfl,cv,q1,q2⟩:=XI (P:=P) (w:=w) hb hi h1 h2 ha
      refine dW (s:=Instr.field s (a.eval x) f) (by simp [execOp,hop]) (cv:=cv) (w':=w) ?_ (hK _ _ _ _ (r.put0 o.dst _ _ hdst q2))
      rw [he]
      simp [Instr.field,run_underlying hs,hf,asAgg,q1]
     ·cases ha
    ·cases hlow
   ·cases hlow
  ·cases hlow
 ·-- indexAddr
  rename_i t x j hop
  split at hlow
  ·rename_i e x' j' ht hx hj
   rw [Option.map_eq_some_iff] at hlow
   obtain ⟨i,hi,rfl⟩:=hlow
   obtain ⟨rfl,cv,q1,q2⟩:=aFJ ht hi r (aV r.frame hx) (aV r.frame hj) ha
   exact dW (s:=Instr.indexAt t (a.eval x) (a.eval j)) (by simp [execOp,hop]) q1 (hK _ _ _ _ (r.put0 o.dst _ _ hdst q2))
  ·rename_i n e x' k q ht hx hj
   split at hlow
   ·rename_i i hi
    split at hlow
    ·rename_i hc
     obtain ⟨c1,c2,c3⟩:=hc
     cases hlow
     have hjr:=aV r.frame hj
     obtain ⟨rfl,cv,q1,q2⟩:=Y3 r ht hi c1 c2 (lC hjr) (aV r.frame hx) ha
     exact dW (s:=Instr.indexAt t (a.eval x) (a.eval j)) (by simp [execOp,hop]) q1 (hK _ _ _ _ (r.put0 o.dst _ _ hdst q2))
    ·cases hlow
   ·cases hlow
  ·rename_i n e x' j' _ ht hx hj
   split at hlow
   ·rename_i i hi
    split at hlow
    ·cases hlow
     obtain ⟨rfl,cv,q1,q2⟩:=W3 r ht hi (aV r.frame hx) (aV r.frame hj) ha
     exact dW (s:=Instr.indexAt t (a.eval x) (a.eval j)) (by simp [execOp,hop]) q1 (hK _ _ _ _ (r.put0 o.dst _ _ hdst q2))
    ·cases hlow
   ·cases hlow
  ·cases hlow
 ·-- index
  rename_i t x j hop
  split at hlow
  ·rename_i x' j' ht hx hj
   cases hlow
   obtain ⟨rfl,cv,q1,q2⟩:=aBb (P:=P) (w:=w) ht (aV r.frame hx) (aV r.frame hj) ha
   exact dW (s:=Instr.index t (a.eval x) (a.eval j)) (by simp [execOp,hop]) q1 (hK _ _ _ _ (r.put0 o.dst _ _ hdst q2))
  ·rename_i n e x' j' ht hx hj
   split at hlow
   ·rename_i ep i he hi
    split at hlow
    ·rename_i hz
     cases hlow
     obtain ⟨rfl,cv,q1,q2⟩:=aLl (P:=P) (w:=w) ht he hi hz (aV r.frame hx) (aV r.frame hj) ha
     exact dW (s:=Instr.index t (a.eval x) (a.eval j)) (by simp [execOp,hop]) q1 (hK _ _ _ _ (r.put0 o.dst _ _ hdst q2))
    ·cases hlow
   ·cases hlow
  ·cases hlow
 ·-- extract
  rename_i x n hop
  rw [Option.map_eq_some_iff] at hlow
  obtain ⟨y,h1,rfl⟩:=hlow
  obtain ⟨rfl,cv,q1,q2⟩:=ZM (P:=P) (w:=w) (aV r.frame h1) ha
  exact dW (s:=Instr.extract (a.eval x) n) (by simp [execOp,hop]) q1 (hK _ _ _ _ (r.put0 o.dst _ _ hdst q2))
 ·-- makeSlice
  rename_i t l c hop
  split at hlow
  ·rename_i e l' c' ht hl hc
   split at hlow
   ·rename_i i hi
    split at hlow
    ·rename_i z hz
     split at hlow
     ·rename_i zs h1
      split at hlow
      ·rename_i row h2
       split at hlow
       ·rename_i hcnd
        cases hlow
        obtain ⟨cv,w',hd',q1,q2⟩:=aJ4 r ht hi hz hcnd.1 hcnd.2 h1 h2 (aV r.frame hl) (aV r.frame hc) o.dst hdst ha
        exact dW (s:=Instr.makeSlice t (a.eval l) (a.eval c)) (by simp [execOp,hop]) q1 (hK _ _ _ _ q2)
       ·cases hlow
      ·cases hlow
     ·cases hlow
    ·cases hlow
   ·cases hlow
  ·cases hlow
 ·-- makeMap
  rename_i t rsv hop
  split at hlow
  ·split at hlow
   ·rename_i z hz
    obtain ⟨k,e,ek⟩:=z
    cases hlow
    obtain ⟨w',hd',cv,q1,q2⟩:=aFC hz r o.dst hdst ha
    exact dW (s:=Instr.makeMap t none) (by simp [execOp,hop]) q1 (hK _ _ _ _ q2)
   ·split at hlow
    ·rename_i z hz
     cases hlow
     obtain ⟨w',hd',cv,q1,q2⟩:=aBe (P:=P) (t:=t) r o.dst hdst ha
     exact dW (s:=Instr.makeMap t none) (by simp [execOp,hop]) q1 (hK _ _ _ _ q2)
    ·cases hlow
  ·cases hlow
 ·-- mapUpdate
  rename_i t m k v' hop
  split at hlow
  ·rename_i m' k' x' hm hk hx
   split at hlow
   ·rename_i z hz
    obtain ⟨kt,e,ek⟩:=z
    cases hlow
    obtain ⟨w',hd',q1,q2⟩:=Y6 hz r (aV r.frame hm) (aV r.frame hk) (aV r.frame hx) o.dst hdst undef ha
    exact I0 (s:=Instr.mapUpdate t (a.eval m) (a.eval k) (a.eval v')) (by simp [execOp,hop]) q1 (hK _ _ _ _ q2)
   ·split at hlow
    ·rename_i z hz
     obtain ⟨kt,e⟩:=z
     cases hlow
     obtain ⟨w',hd',q1,q2⟩:=US hz r (aV r.frame hm) (aV r.frame hk) (aV r.frame hx) o.dst hdst undef ha
     exact I0 (s:=Instr.mapUpdate t (a.eval m) (a.eval k) (a.eval v')) (by simp [execOp,hop]) q1 (hK _ _ _ _ q2)
    ·cases hlow
  ·cases hlow
 ·-- insert
  rename_i t m k v' hop
  split at hlow
  ·rename_i m' k' x' hm hk hx
   split at hlow
   ·rename_i z hz
    obtain ⟨kt,e,ek⟩:=z
    cases hlow
    obtain ⟨w',hd',q1,q2⟩:=Y6 hz r (aV r.frame hm) (aV r.frame hk) (aV r.frame hx) o.dst hdst undef ha
    exact I0 (s:=Instr.mapUpdate t (a.eval m) (a.eval k) (a.eval v')) (by simp [execOp,hop]) q1 (hK _ _ _ _ q2)
   ·split at hlow
    ·rename_i z hz
     obtain ⟨kt,e⟩:=z
     cases hlow
     obtain ⟨w',hd',q1,q2⟩:=US hz r (aV r.frame hm) (aV r.frame hk) (aV r.frame hx) o.dst hdst undef ha
     exact I0 (s:=Instr.mapUpdate t (a.eval m) (a.eval k) (a.eval v')) (by simp [execOp,hop]) q1 (hK _ _ _ _ q2)
    ·cases hlow
  ·cases hlow
 ·-- lookup
  rename_i t m k ok hop
  split at hlow
  ·rename_i m' k' hm hk
   split at hlow
   ·rename_i z hz
    obtain ⟨kt,e,ek⟩:=z
    cases hlow
    obtain ⟨cv,q1,q2⟩:=aLq hz r (aV r.frame hm) (aV r.frame hk) o.dst hdst ha
    exact dW (s:=Instr.lookup t (a.eval m) (a.eval k) false) (by simp [execOp,hop]) q1 (hK _ _ _ _ q2)
   ·split at hlow
    ·rename_i z hz
     obtain ⟨kt,e⟩:=z
     cases hlow
     obtain ⟨cv,q1,q2⟩:=aG6 hz r (aV r.frame hm) (aV r.frame hk) o.dst hdst ha
     exact dW (s:=Instr.lookup t (a.eval m) (a.eval k) false) (by simp [execOp,hop]) q1 (hK _ _ _ _ q2)
    ·cases hlow
  ·cases hlow
 ·-- makeFunc
  rename_i fn first captured hop
  split at hlow
  ·rename_i f
   split at hlow
   ·rename_i hfirst
    rw [Option.map_eq_some_iff] at hlow
    obtain ⟨caps,h1,rfl⟩:=hlow
    simp only [cJ] at ha
    split at ha
    ·cases ha
    ·rename_i ds hds
     cases ha
     obtain ⟨m1,m2⟩:=bJ h1
     obtain ⟨n1,n2⟩:=bJ hds
     have hok:uT bl (caps.flatMap fun x=>AL bl (bL fr x)):=uT.flatMap1 caps fun x=>bL fr x
     have hfe:first = #[]:=by simpa using hfirst
     subst hfe
     refine dW (s:=Instr.makeFunc (.func f) #[] (captured.map a.eval)) (cv:=.func (.func f) #[] (captured.map a.eval)) (w':=w) (by simp [execOp,hop]) (by simp [Instr.makeFunc]) (hK _ _ _ _ ((r.freeze _ hok).put0 o.dst _ _ hdst ⟨rfl,.fn f (captured.map a.eval) ds (by simp at m1 ⊢; omega) ?_⟩))
     intro j d hj
     obtain ⟨y,y1,y2⟩:=bY hds hj
     obtain ⟨z,z1,z2⟩:=bY h1 y1
     have z1' : captured[j]? = some z:=by simpa using z1
     have e3:(captured.map a.eval).getD j undef = a.eval z:=by simp [z1']
     rw [e3]
     have h3:=aV r.frame z2
     refine (mP r _ (x:=bL fr y) ?_ y2 fun p hp=>List.mem_flatMap.2 ⟨y,List.mem_of_getElem? y1,hp⟩).1
     generalize bL fr y = yy at h3 y2
     cases yy with
     | tup vs=>cases y2
     | agg cs=>cases y2
     | _=>exact h3
   ·cases hlow
  ·cases hlow
 ·-- calls
  rename_i c hop
  have hargs:∀ {l:List bM},aK gX c.args.toList = some l->(c.args.map a.eval).size = l.length ∧ ∀ (j:Nat) (y:bM),l[j]? = some y->R3 h hd bl ((c.args.map a.eval).getD j undef) (bL fr y):=by
   intro l e
   obtain ⟨m1,m2⟩:=bJ e
   refine ⟨by simpa using m1,fun j y hy=>?_⟩
   obtain ⟨x,x1,x2⟩:=bY e hy
   have x1' : c.args[j]? = some x:=by simpa using x1
   have:(c.args.map a.eval).getD j undef = a.eval x:=by simp [x1']
   rw [this]
   exact aV r.frame x2
  split at hlow
  ·-- a function
   rename_i f hcal
   split at hlow
   ·rename_i fn args hfn hl
    split at hlow
    ·rename_i hcnd
     obtain ⟨c1,c2⟩:=hcnd
     cases hlow
     simp only [cJ] at ha
     split at ha
     ·cases ha
     ·rename_i ds hds
      split at ha
      ·cases ha
      ·rename_i x hCx
       obtain ⟨a1,a2⟩:=hargs hl
       obtain ⟨m1,m2⟩:=bJ hds
       have hexec:(execOp a.eval o).run P w = .ok (.enter f (c.args.map a.eval)) w:=by
        obtain ⟨bd,hbd⟩:=Option.isSome_iff_exists.1 c2
        have c1' : (fn.name == "runtime.NumGoroutine") = false:=by simpa using c1
        have e2:c.args.map a.eval ++ #[] = c.args.map a.eval:=by simp
        simp [execOp,hop,resolve,hcal,Act.eval,Deferred.ofValue,invoke,callFunc,hfn,c1,hbd]
       have hpl:jH 0 ds = none:=CG ds 0 fun d hd=>by
        obtain ⟨i,hi⟩:=List.mem_iff_getElem?.1 hd
        obtain ⟨y,y1,y2⟩:=bY hds hi
        exact I5 r (a2 i y y1) y2
       refine UN r ((hC f ds x hCx).1 hpl) hdst hexec ha (uT.flatMap args fun x=>bL fr x) (by omega) (by
        intro i d hi
        obtain ⟨y,y1,y2⟩:=bY hds hi
        have h3:=a2 i y y1
        refine oD r _ ?_ y2 fun p hp=>List.mem_flatMap.2 ⟨y,List.mem_of_getElem? y1,hp⟩
        generalize bL fr y = yy at h3 y2
        cases yy with
        | tup vs=>cases y2
        | _=>exact h3) hK
    ·cases hlow
   ·cases hlow
  ·-- a function value
   rename_i g hnf hcal
   split at hlow
   ·rename_i x' args hx hl
    cases hlow
    simp only [cJ] at ha
    split at ha
    ·rename_i f caps hev
     split at ha
     ·cases ha
     ·rename_i ds hds
      split at ha
      ·cases ha
      ·rename_i x hCx
       obtain ⟨a1,a2⟩:=hargs hl
       obtain ⟨m1,m2⟩:=bJ hds
       have hg:=aV r.frame hx
       rw [hev] at hg
       obtain ⟨_,hg⟩ : D.atom _ = true ∧ aT h (a.eval g) (.fn f caps):=hg
       obtain ⟨arr,hge,hgl,hgr⟩ : ∃ arr:Array Value,a.eval g = .func (.func f) #[] arr ∧ arr.size = caps.length ∧ ∀ (j:Nat) (x:D),caps[j]? = some x->aT h (arr.getD j undef) x:=by
        generalize a.eval g = q at hg
        cases hg with
        | fn f arr cs hl hr=>exact ⟨arr,rfl,hl,hr⟩
       have hS:=(hC f _ x hCx).1 (CG _ 0 fun d hd=>by
        rcases List.mem_append.1 hd with hd | hd
        ·obtain ⟨i,hi⟩:=List.mem_iff_getElem?.1 hd
         obtain ⟨y,y1,y2⟩:=bY hds hi
         exact I5 r (a2 i y y1) y2
        ·obtain ⟨i,hi⟩:=List.mem_iff_getElem?.1 hd
         exact R9 (hgr i d hi))
       have hS2:=hS
       obtain ⟨⟨fn,g1,g2,g3⟩,_⟩:=hS2
       have hexec:(execOp a.eval o).run P w = .ok (.enter f (c.args.map a.eval ++ arr)) w:=by
        obtain ⟨bd,hbd⟩:=Option.isSome_iff_exists.1 g3
        have g2' : (fn.name == "runtime.NumGoroutine") = false:=by simpa using g2
        simp [execOp,hop,resolve,hcal,hge,Deferred.ofValue,invoke,callFunc,g1,g2,hbd]
       refine UN r hS hdst hexec ha (uT.flatMap args fun x=>bL fr x) (by simp only [Array.size_append,List.length_append]; omega) (by
        intro i d hi
        rw [List.getElem?_append] at hi
        by_cases hlt:i < ds.length
        ·rw [if_pos hlt] at hi
         obtain ⟨y,y1,y2⟩:=bY hds hi
         have h3:=a2 i y y1
         have e3:(c.args.map a.eval ++ arr).getD i undef = (c.args.map a.eval).getD i undef:=by
          simp only [Array.getD_eq_getD_getElem?]
          rw [Array.getElem?_append_left (by omega)]
         rw [e3]
         refine oD r _ ?_ y2 fun p hp=>List.mem_flatMap.2 ⟨y,List.mem_of_getElem? y1,hp⟩
         generalize bL fr y = yy at h3 y2
         cases yy with
         | tup vs=>cases y2
         | _=>exact h3
        ·rw [if_neg hlt] at hi
         have e3:(c.args.map a.eval ++ arr).getD i undef = arr.getD (i - ds.length) undef:=by
          simp only [Array.getD_eq_getD_getElem?]
          rw [Array.getElem?_append_right (by omega)]
          congr 3
          omega
         rw [e3]
         exact (hgr _ d hi).mono (yA r _)) hK
    ·cases ha
   ·cases hlow
  ·-- len
   rename_i hcal
   split at hlow
   ·rename_i x t hca hct
    have hca:c.args = #[x]:=by rw [← Array.toArray_toList (xs:=c.args),hca]
    have hct:c.argTypes = #[t]:=by rw [← Array.toArray_toList (xs:=c.argTypes),hct]
    split at hlow
    ·rename_i x' ht hx
     cases hlow
     obtain ⟨rfl,cv,q1,q2⟩:=aKq (P:=P) (w:=w) (ty:=o.type) ht (aV r.frame hx) ha
     exact dW (s:=Builtin.len_ #[t] o.type #[a.eval x]) (by simp [execOp,hop,resolve,hcal,hca,hct,invoke,builtin]) q1 (hK _ _ _ _ (r.put0 o.dst _ _ hdst q2))
    ·rename_i e x' ht hx
     cases hlow
     obtain ⟨rfl,cv,q1,q2⟩:=aMB (P:=P) (ty:=o.type) r ht (aV r.frame hx) ha
     exact dW (s:=Builtin.len_ #[t] o.type #[a.eval x]) (by simp [execOp,hop,resolve,hcal,hca,hct,invoke,builtin]) q1 (hK _ _ _ _ (r.put0 o.dst _ _ hdst q2))
    ·cases hlow
   ·cases hlow
  ·-- append
   rename_i hcal
   split at hlow
   ·rename_i x y t u hca hct
    have hca:c.args = #[x,y]:=by rw [← Array.toArray_toList (xs:=c.args),hca]
    have hct:c.argTypes = #[t,u]:=by rw [← Array.toArray_toList (xs:=c.argTypes),hct]
    split at hlow
    ·rename_i htu
     subst htu
     split at hlow
     ·rename_i e x' y' ht hx hy
      split at hlow
      ·rename_i i hi
       split at hlow
       ·rename_i z hz
        split at hlow
        ·rename_i hcnd
         obtain ⟨c1,c2,c3⟩:=hcnd
         cases hlow
         obtain ⟨cv,w',hd',q1,q2⟩:=aCO (ty:=o.type) r ht hi hz c1 c2 c3 (aV r.frame hx) (aV r.frame hy) o.dst hdst ha
         exact dW (s:=Builtin.append_ #[t,t] o.type #[a.eval x,a.eval y]) (by simp [execOp,hop,resolve,hcal,hca,hct,invoke,builtin]) q1 (hK _ _ _ _ q2)
        ·cases hlow
       ·cases hlow
      ·cases hlow
     ·cases hlow
    ·cases hlow
   ·cases hlow
  ·-- clear
   rename_i hcal
   split at hlow
   ·rename_i x t hca hct
    have hca:c.args = #[x]:=by rw [← Array.toArray_toList (xs:=c.args),hca]
    have hct:c.argTypes = #[t]:=by rw [← Array.toArray_toList (xs:=c.argTypes),hct]
    split at hlow
    ·rename_i e x' ht hx
     split at hlow
     ·rename_i i hi
      split at hlow
      ·rename_i z hz
       split at hlow
       ·rename_i zs h1
        split at hlow
        ·rename_i row h2
         split at hlow
         ·rename_i hcnd
          cases hlow
          obtain ⟨w',hd',q1,q2⟩:=aHG (ty:=o.type) r ht hi hz hcnd.1 hcnd.2 h1 h2 (aV r.frame hx) o.dst hdst ha
          exact dW (s:=Builtin.clear_ #[t] o.type #[a.eval x]) (by simp [execOp,hop,resolve,hcal,hca,hct,invoke,builtin]) q1 (hK _ _ _ _ q2)
         ·cases hlow
        ·cases hlow
       ·cases hlow
      ·cases hlow
     ·cases hlow
    ·cases hlow
   ·cases hlow
  ·-- delete
   rename_i hcal
   split at hlow
   ·rename_i m k t u hca hct
    have hca:c.args = #[m,k]:=by rw [← Array.toArray_toList (xs:=c.args),hca]
    have hct:c.argTypes = #[t,u]:=by rw [← Array.toArray_toList (xs:=c.argTypes),hct]
    split at hlow
    ·rename_i z m' k' hz hm hk
     obtain ⟨kt,e,ek⟩:=z
     split at hlow
     ·rename_i hu
      cases hlow
      cases hu
      obtain ⟨w',hd',q1,q2⟩:=aI8 (ty:=o.type) hz r (aV r.frame hm) (aV r.frame hk) o.dst hdst ha
      exact dW (s:=Builtin.delete_ #[t,kt] o.type #[a.eval m,a.eval k]) (by simp [execOp,hop,resolve,hcal,hca,hct,invoke,builtin]) q1 (hK _ _ _ _ q2)
     ·cases hlow
    ·cases hlow
   ·cases hlow
  ·-- max
   rename_i hcal
   rw [Option.map_eq_some_iff] at hlow
   obtain ⟨l,h1,rfl⟩:=hlow
   simp only [cJ,J1.v,Option.map_eq_some_iff] at ha
   obtain ⟨d,e1,e2⟩:=ha
   cases e2
   obtain ⟨a1,a2⟩:=hargs h1
   obtain ⟨cv,q1,q2,q3⟩:=aPn (P:=P) (w:=w) (h:=h) (hd:=hd) (bl:=bl) (c.args.map a.eval).toList (l.map (bL fr)) d (by simpa using a1.symm) (fun j y hy=>by
    rw [List.getElem?_map,Option.map_eq_some_iff] at hy
    obtain ⟨z,z1,rfl⟩:=hy
    simpa using a2 j z z1) e1 c.argTypes o.type
   refine dW (s:=Builtin.max_ c.argTypes o.type (c.args.map a.eval)) (by simp [execOp,hop,resolve,hcal,invoke,builtin]) (cv:=cv) (w':=w) ?_ (hK _ _ _ _ (r.put0 o.dst _ _ hdst ⟨q3,q2⟩))
   rw [Array.toArray_toList] at q1
   exact q1
  ·-- min
   rename_i hcal
   rw [Option.map_eq_some_iff] at hlow
   obtain ⟨l,h1,rfl⟩:=hlow
   simp only [cJ,J1.v,Option.map_eq_some_iff] at ha
   obtain ⟨d,e1,e2⟩:=ha
   cases e2
   obtain ⟨a1,a2⟩:=hargs h1
   obtain ⟨cv,q1,q2,q3⟩:=aQa (P:=P) (w:=w) (h:=h) (hd:=hd) (bl:=bl) (c.args.map a.eval).toList (l.map (bL fr)) d (by simpa using a1.symm) (fun j y hy=>by
    rw [List.getElem?_map,Option.map_eq_some_iff] at hy
    obtain ⟨z,z1,rfl⟩:=hy
    simpa using a2 j z z1) e1 c.argTypes o.type
   refine dW (s:=Builtin.min_ c.argTypes o.type (c.args.map a.eval)) (by simp [execOp,hop,resolve,hcal,invoke,builtin]) (cv:=cv) (w':=w) ?_ (hK _ _ _ _ (r.put0 o.dst _ _ hdst ⟨q3,q2⟩))
   rw [Array.toArray_toList] at q1
   exact q1
  ·cases hlow
 ·cases hlow
theorem Z5 {o:Oper} {size:Nat} {x:bM} {lo hi:Option bM} (h:xJ P o = .slice size x lo hi) :
  ∃ (t e:TypeId) (i:TypeInfo) (xo:Operand) (lov hiv:Option Operand),o.op = .slice t xo lov hiv none ∧ P.underlying t = some (.slice e) ∧ P.info? e = some i ∧ i.size = size ∧ gX xo = some x ∧ aDj lov = some lo ∧ aDj hiv = some hi:=by
 unfold xJ at h
 cases hl:CY P o with
 | none=>rw [hl] at h; cases h
 | some so =>
  rw [hl] at h
  simp only [Option.getD_some] at h
  subst h
  unfold CY at hl
  cases hop:o.op with
  | slice t xo lov hiv mx =>
   rw [hop] at hl
   simp only at hl
   split at hl
   ·cases hl
   ·split at hl
    ·rename_i e x' lo' hi' ht hx hlo hhi
     rw [Option.map_eq_some_iff] at hl
     obtain ⟨i,hi1,q⟩:=hl
     cases q
     exact ⟨t,e,i,xo,lov,hiv,rfl,ht,hi1,rfl,hx,hlo,hhi⟩
    ·cases hl
    ·cases hl
  | _ =>
   rw [hop] at hl
   simp only at hl
   try unfold N4 at hl
   repeat' (first | (cases hl; done) | (rw [Option.map_eq_some_iff] at hl; obtain ⟨_,_,e⟩:=hl; cases e; done) | split at hl)
theorem aRt (r:Rl nt w0 h0 fr bl a w h hd) (o:Oper) {size:Nat} {x:bM} {lo hi:Option bM} (hlow:xJ P o = .slice size x lo hi) (hdst:EB nt w0 o.dst)
  {C:Nat->List D->Option D} {site:Nat} {v:V} {wr:List (Nat × Option aI)} (ha:cJ C site (bL fr) bl (.cut size x lo hi) = some (v,wr)) {K:Act->World->Prop} {Q:Exit->Act->World->Prop}
  (hK:∀ a' w' h' hd',Rl nt w0 h0 (eN fr o.dst v) (bP bl wr) a' w' h' hd'->K a' w'):o.wp P a w K Q:=by
 obtain ⟨t,e,i,xo,lov,hiv,hop,ht,hi1,rfl,hx,hlo,hhi⟩:=Z5 hlow
 obtain ⟨l1,m1⟩:=JK r hlo
 obtain ⟨l2,m2⟩:=JK r hhi
 simp only [cJ] at ha
 obtain ⟨cv,hd',g1,g2⟩:=aN9 r ht hi1 (aV r.frame hx) l1 l2 m1 m2 o.dst hdst ha
 exact dW (s:=Instr.sliceAt t (a.eval xo) (lov.map a.eval) (hiv.map a.eval) none) (by simp [execOp,hop]) g1 (hK _ _ _ _ g2)
theorem aON {C:Nat->List D->Option D} (hC:qK P C) (r:Rl nt w0 h0 fr bl a w h hd) (o:Oper) {f t:Nat} {args:List bM} (hlow:xJ P o = .call f args) (hdst:EB nt w0 o.dst)
  {site:Nat} {v:V} {wr:List (Nat × Option aI)} (ha:cJ C site (bL fr) bl (.lend f args t) = some (v,wr)) {K:Act->World->Prop} {Q:Exit->Act->World->Prop}
  (hK:∀ a' w' h' hd',Rl nt w0 h0 (eN fr o.dst v) (bP bl wr) a' w' h' hd'->K a' w'):o.wp P a w K Q:=by
 obtain ⟨c,fn,hop,hcal,hfn,hl,c1,c2⟩:=LP hlow
 obtain ⟨m1,m2⟩:=bJ hl
 have a1:(c.args.map a.eval).size = args.length:=by simpa using m1
 have a2:∀ (j:Nat) (y:bM),args[j]? = some y->R3 h hd bl ((c.args.map a.eval).getD j undef) (bL fr y):=fun j y hy=>by
  obtain ⟨x,x1,x2⟩:=bY hl hy
  have x1' : c.args[j]? = some x:=by simpa using x1
  have:(c.args.map a.eval).getD j undef = a.eval x:=by simp [x1']
  rw [this]
  exact aV r.frame x2
 have hexec:(execOp a.eval o).run P w = .ok (.enter f (c.args.map a.eval)) w:=by
  obtain ⟨bd,hbd⟩:=Option.isSome_iff_exists.1 c2
  have c1' : (fn.name == "runtime.NumGoroutine") = false:=by simpa using c1
  simp [execOp,hop,resolve,hcal,Act.eval,Deferred.ofValue,invoke,callFunc,hfn,c1,hbd]
 simp only [cJ] at ha
 split at ha
 ·rename_i id ver hlent
  split at ha
  ·cases ha
  ·rename_i ds hds
   split at ha
   ·rename_i hni
    split at ha
    ·rename_i y e size rows' hCx
     split at ha
     ·rename_i vv e' size' rows hb
      split at ha
      ·rename_i hc
       obtain ⟨rfl,rfl,rfl,hfy,hfr⟩:=hc
       cases ha
       obtain ⟨n1,n2⟩:=UW hds
       have hsz:(c.args.map a.eval).size = ds.length:=by rw [a1,← n1]; simp
       obtain ⟨dt,t1,t2⟩:=n2 t _ hlent
       rw [Nat.zero_add,if_pos rfl] at t2
       simp only [M6,hb,if_true,Option.some.injEq] at t2
       subst t2
       have hother:∀ (i:Nat) (d:D),i ≠ t->ds[i]? = some d->∃ y,args[i]? = some y ∧ iY bl (bL fr y) = some d:=fun i d hi hd=>by
        have hlt:i < (args.map (bL fr)).length:=by rw [n1]; exact (List.getElem?_eq_some_iff.1 hd).1
        have hlt' : i < args.length:=by simpa using hlt
        obtain ⟨d',q1,q2⟩:=n2 i _ (List.getElem?_eq_getElem hlt)
        rw [Nat.zero_add,if_neg hi] at q2
        rw [hd] at q1
        cases q1
        exact ⟨args[i],by simp [hlt'],by simpa using q2⟩
       have hat:jH 0 ds = some t:=by
        have:=OS ds 0 t _ t1 rfl (fun j x hj hx=>by
         obtain ⟨y,hy,q⟩:=hother j x (by omega) hx
         exact I5 r (a2 j y hy) q)
        simpa using this
       have hS:=(hC f ds _ hCx).2 t hat
       have hok:=UG (bl:=bl) (t:=t) (args.map (bL fr)) 0
       have hr:=r.freeze _ hok
       obtain ⟨xt,xt1,xt2⟩ : ∃ x,args[t]? = some x ∧ bL fr x = .own id ver:=by
        rw [List.getElem?_map,Option.map_eq_some_iff] at hlent
        exact hlent
       have hvt:(c.args.map a.eval).getD t undef = hd id:=by
        have h3:=a2 t xt xt1
        rw [xt2] at h3
        obtain ⟨b,cc,g1,g2,g3,g4,g5⟩ : ∃ b c',bl id = some b ∧ b.ver? = some c' ∧ ver <= c' ∧ _ ∧ (ver = c'->_ = hd id):=h3
        rw [hb] at g1
        cases g1
        simp only [aI.ver?,Option.some.injEq] at g2
        exact g5 g2
       have hb1:bP bl (tH bl t 0 (args.map (bL fr))) id = some (.rows ver e size rows):=by
        have hn:=SP hni
        unfold bP
        rcases zQ (tH bl t 0 (args.map (bL fr))) (bl id) id with q | ⟨p,q1,q2,q3⟩
        ·rw [q]; exact hb
        ·exact absurd q2 (hn p q1)
       obtain ⟨k1,k2,k3,k4⟩:=hr.blk id _ hb1
       have hcalls:=hS.2 e size rows rows' y t1 rfl w _ (c.args.map a.eval) (LL r _) hsz (fun i d hi hdi=>by
        obtain ⟨z,z1,z2⟩:=hother i d hi hdi
        have h3:=a2 i z z1
        refine oD r _ ?_ z2 fun p hp=>RF (t:=t) (args.map (bL fr)) 0 i (bL fr z) (by rw [List.getElem?_map,z1]; rfl) (by omega) p hp
        generalize bL fr z = zz at h3 z2
        cases zz with
        | tup vs=>cases z2
        | _=>exact h3) (by rw [hvt]; exact ⟨k1,k2,k3,fun g hg=>(k4 g hg).1⟩)
       unfold Oper.wp
       rw [hexec]
       simp only [Oper.upon]
       refine hcalls.mono ?_
       rintro en w' ⟨cv,h',rfl,g1,g2,g3,g4,g5⟩
       rw [hvt] at g2 g5
       simp only
       exact hK _ _ h hd (r.lent o.dst hdst cv hb g5 g2 g1 hfy hfr)
      ·cases ha
     ·cases ha
    ·cases ha
   ·cases ha
 ·cases ha
theorem D1 {hd:Nat->Value} {bl:Nat->Option aI} {v:Value} {d:D} (hc:VA d = true) (k:Hp) (site:Nat) (r:R1 h hd bl v (Y0 site d)):R1 k hd bl v (Y0 site d):=by
 cases d with
 | ref n=>exact r
 | mref n=>exact r
 | int kk n=>exact ⟨r.1,y8 r.2 rfl k⟩
 | bool b=>exact ⟨r.1,y8 r.2 rfl k⟩
 | str s=>exact ⟨r.1,y8 r.2 rfl k⟩
 | _=>simp [VA,GG] at hc
theorem AW {hd:Nat->Value} {bl:Nat->Option aI} {v:Value} {d:D} (hc:YT d = true) (k:Hp) (site:Nat) (r:R2 h hd bl v (U1 site d)):R2 k hd bl v (U1 site d):=by
 cases d with
 | agg cs =>
  obtain ⟨arr,e,hs,hr⟩:=r
  refine ⟨arr,e,hs,fun j x hx=>?_⟩
  have:=hr j x hx
  rw [List.getElem?_map,Option.map_eq_some_iff] at hx
  obtain ⟨y,hy,rfl⟩:=hx
  exact ⟨D1 (List.all_eq_true.1 hc y (List.mem_of_getElem? hy)) k site this.1,this.2⟩
 | ref n=>exact D1 (h:=h) (hd:=hd) (bl:=bl) (v:=v) (d:=.ref n) rfl k site r
 | mref n=>exact D1 (h:=h) (hd:=hd) (bl:=bl) (v:=v) (d:=.mref n) rfl k site r
 | int kk n=>exact D1 (h:=h) (hd:=hd) (bl:=bl) (v:=v) (d:=.int kk n) rfl k site r
 | bool b=>exact D1 (h:=h) (hd:=hd) (bl:=bl) (v:=v) (d:=.bool b) rfl k site r
 | str s=>exact D1 (h:=h) (hd:=hd) (bl:=bl) (v:=v) (d:=.str s) rfl k site r
 | _=>simp [YT,VA,GG] at hc
theorem aLc {hd:Nat->Value} {bl:Nat->Option aI} {v:Value} {d:D} (hc:aEn d = true) (k:Hp) (site:Nat) (r:R3 h hd bl v (thaw site d)):R3 k hd bl v (thaw site d):=by
 cases d with
 | tup vs =>
  obtain ⟨arr,e,hs,hr⟩:=r
  refine ⟨arr,e,hs,fun j x hx=>?_⟩
  have:=hr j x hx
  rw [List.getElem?_map,Option.map_eq_some_iff] at hx
  obtain ⟨y,hy,rfl⟩:=hx
  exact AW (List.all_eq_true.1 hc y (List.mem_of_getElem? hy)) k site this
 | agg cs=>exact AW (h:=h) (hd:=hd) (bl:=bl) (v:=v) (d:=.agg cs) hc k site r
 | ref n=>exact AW (h:=h) (hd:=hd) (bl:=bl) (v:=v) (d:=.ref n) rfl k site r
 | mref n=>exact AW (h:=h) (hd:=hd) (bl:=bl) (v:=v) (d:=.mref n) rfl k site r
 | int kk n=>exact AW (h:=h) (hd:=hd) (bl:=bl) (v:=v) (d:=.int kk n) rfl k site r
 | bool b=>exact AW (h:=h) (hd:=hd) (bl:=bl) (v:=v) (d:=.bool b) rfl k site r
 | str s=>exact AW (h:=h) (hd:=hd) (bl:=bl) (v:=v) (d:=.str s) rfl k site r
 | _=>simp [aEn,YT,VA,GG] at hc
theorem YG {k:Hp} {size:Nat} {rows:List (List D)} {xs:List Value} (hf:pE rows = true) (r:iI h size rows xs):iI k size rows xs:=fun i row hi =>
 ⟨(r i row hi).1,fun j x hx=>⟨((r i row hi).2 j x hx).1,by
  obtain ⟨u,h1,h2⟩:=((r i row hi).2 j x hx).2
  exact ⟨u,h1,y8 h2 (List.all_eq_true.1 (List.all_eq_true.1 hf row (List.mem_of_getElem? hi)) x (List.mem_of_getElem? hx)) k⟩⟩⟩
theorem PC (site:Nat):∀ (es:List (Nat × Nat)) (rs:List (List (List D))) (n:Nat),∀ p ∈ fV site n es rs,∃ e size rows,p.2 = some (zS e size rows) ∧ rows ∈ rs
 | [],rs,n,p,hp=>by simp [fV] at hp
 | (e,size) :: es,[],n,p,hp=>by simp [fV] at hp
 | (e,size) :: es,rows :: rs,n,p,hp=>by
  simp only [fV,List.mem_cons] at hp
  rcases hp with rfl | hp
  ·exact ⟨_,_,_,rfl,List.mem_cons_self ..⟩
  ·obtain ⟨e,size,rows,h1,h2⟩:=PC site es rs (n + 1) p hp
   exact ⟨e,size,rows,h1,List.mem_cons_of_mem _ h2⟩
theorem aLM {C:Nat->List D->Option D} (hC:qK P C) (r:Rl nt w0 h0 fr bl a w h hd) (o:Oper) {f:Nat} {args:List bM} (hlow:xJ P o = .call f args) (hdst:EB nt w0 o.dst)
  {site:Nat} {v:V} {wr:List (Nat × Option aI)} (ha:cJ C site (bL fr) bl (.calln f args) = some (v,wr)) {K:Act->World->Prop} {Q:Exit->Act->World->Prop}
  (hK:∀ a' w' h' hd',Rl nt w0 h0 (eN fr o.dst v) (bP bl wr) a' w' h' hd'->K a' w'):o.wp P a w K Q:=by
 obtain ⟨c,fn,hop,hcal,hfn,hl,c1,c2⟩:=LP hlow
 obtain ⟨m1,m2⟩:=bJ hl
 have a1:(c.args.map a.eval).size = args.length:=by simpa using m1
 have a2:∀ (j:Nat) (y:bM),args[j]? = some y->R3 h hd bl ((c.args.map a.eval).getD j undef) (bL fr y):=fun j y hy=>by
  obtain ⟨x,x1,x2⟩:=bY hl hy
  have x1' : c.args[j]? = some x:=by simpa using x1
  have:(c.args.map a.eval).getD j undef = a.eval x:=by simp [x1']
  rw [this]
  exact aV r.frame x2
 have hexec:(execOp a.eval o).run P w = .ok (.enter f (c.args.map a.eval)) w:=by
  obtain ⟨bd,hbd⟩:=Option.isSome_iff_exists.1 c2
  have c1' : (fn.name == "runtime.NumGoroutine") = false:=by simpa using c1
  simp [execOp,hop,resolve,hcal,Act.eval,Deferred.ofValue,invoke,callFunc,hfn,c1,hbd]
 simp only [cJ] at ha
 split at ha
 ·cases ha
 rename_i ds hds
 split at ha
 ·rename_i x es rs hCx
  split at ha
  ·rename_i hnew
   obtain ⟨n1,n2⟩:=bJ hds
   have hpl:jH 0 ds = none:=CG ds 0 fun d hd=>by
    obtain ⟨i,hi⟩:=List.mem_iff_getElem?.1 hd
    obtain ⟨y,y1,y2⟩:=bY hds hi
    exact I5 r (a2 i y y1) y2
   have hok:uT bl (args.flatMap fun x=>vX bl (bL fr x)):=uT.flatMap args fun x=>bL fr x
   have hS:=((hC f ds _ hCx).1 hpl).2 w (GO w h hd (args.flatMap fun x=>vX bl (bL fr x))) (c.args.map a.eval) (LL r _) (by omega) (by
    intro i d hi
    obtain ⟨y,y1,y2⟩:=bY hds hi
    have h3:=a2 i y y1
    refine (oD r _ ?_ y2 fun p hp=>List.mem_flatMap.2 ⟨y,List.mem_of_getElem? y1,hp⟩)
    generalize bL fr y = yy at h3 y2
    cases yy with
    | tup vs=>cases y2
    | _=>exact h3)
   unfold Oper.wp
   rw [hexec]
   simp only [Oper.upon]
   refine hS.mono ?_
   rintro e w' ⟨cv,h',rfl,g1,g2,g3,g4,g5⟩
   simp only
   simp only [oB] at ha
   split at ha
   ·rename_i hfree
    cases ha
    simp only [JE,Bool.and_eq_true] at hnew
    obtain ⟨hc,hfl⟩:=hnew
    obtain ⟨hd0,q1,q2,q3⟩:=g1 site
    have hle:h.le (hw w'):=fun b ob hb=>(g5.block b (Array.getElem?_eq_some_iff.1 (r.hle b ob hb)).1).trans (r.hle b ob hb)
    have hup:h.le h':=(yA r _).trans g2
    obtain ⟨hd',r'⟩:=r.thaw o.dst hdst cv _ (Hp.le.refl _) hle (fun _ _=>rfl) g5 (fV site 0 es rs) (QH hfree) (E4 site es rs 0) hd0 (aLc hc h site q1) (fun id b hb=>by
     have hB:=q2 id b hb
     have hmem:∃ e size rows,b = zS e size rows ∧ rows ∈ rs:=by
      have hb' : bP (fun _=>none) (fV site 0 es rs) id = some b:=hb
      unfold bP at hb'
      rcases zQ (fV site 0 es rs) none id with q | ⟨p,p1,p2,p3⟩
      ·rw [q] at hb'; cases hb'
      ·obtain ⟨e,size,rows,k1,k2⟩:=PC site es rs 0 p p1
       rw [← p3,k1] at hb'
       cases hb'
       exact ⟨e,size,rows,rfl,k2⟩
     obtain ⟨e,size,rows,rfl,hr⟩:=hmem
     unfold zS at hB ⊢
     by_cases hsz:size = 0
     ·rw [if_pos hsz] at hB ⊢
      obtain ⟨g,k1,k2,k3,k4⟩:=hB
      refine ⟨g,k1,k2,k3,?_⟩
      cases hh:h g with
      | none=>rfl
      | some ob=>have:=hup g ob hh; rw [k4] at this; cases this
     ·rw [if_neg hsz] at hB ⊢
      obtain ⟨k1,k2,⟨xs,k3,k4⟩,k5⟩:=hB
      refine ⟨k1,k2,⟨xs,k3,YG (List.all_eq_true.1 hfl rows hr) k4⟩,fun g hg=>⟨?_,(k5 g hg).2⟩⟩
      cases hh:h g with
      | none=>rfl
      | some ob=>have:=hup g ob hh; rw [(k5 g hg).1] at this; cases this) q3
    rw [List.append_nil] at hK
    exact hK _ _ h hd' r'
   ·cases ha
  ·cases ha
 ·cases ha
theorem aTm {C:Nat->List D->Option D} (hC:qK P C) (r:Rl nt w0 h0 fr bl a w h hd) (o:Oper) (hdst:EB nt w0 o.dst)
  {site:Nat} {v:V} {wr:List (Nat × Option aI)} (ha:cJ C site (bL fr) bl (xJ P o) = some (v,wr)) {K:Act->World->Prop} {Q:Exit->Act->World->Prop}
  (hK:∀ a' w' h' hd',Rl nt w0 h0 (eN fr o.dst v) (bP bl wr) a' w' h' hd'->K a' w'):o.wp P a w K Q:=by
 unfold xJ at ha
 cases hl:CY P o with
 | none=>rw [hl] at ha; cases ha
 | some so=>rw [hl] at ha; exact aRs hC r o hl hdst ha hK
end
end Vm
end Go.Proofs.Ytgjcnbgfaimepaa
namespace Go.Proofs.Ytgjcnbgfaimepaa
namespace Vm
open Go.RowKit
def V.ids1:V->List Nat
 | .ptr id _ | .own id _ | .orow id _ _ _ | .mp id=>[id]
 | _=>[]
def V.ids:V->List Nat
 | .agg cs=>cs.flatMap V.ids1
 | v=>v.ids1
def V.dids1 (bl:Nat->Option aI):V->List Nat
 | .ptr id _=>id :: (match bl id with | some (.box cs)=>cs.flatMap V.ids1 | _=>[])
 | v=>v.ids1
def V.dids (bl:Nat->Option aI):V->List Nat
 | .agg cs=>cs.flatMap (V.dids1 bl)
 | v=>v.dids1 bl
def fU.opds:fU->List bM
 | .bytes x | .move x | .box x | .load _ _ x | .nilCheck x | .un _ x | .conv _ x | .fieldAddr _ x | .field _ _ _ x | .len x | .lenS x | .extract x _ | .isnil _ x | .isnp _ x=>[x]
 | .alloc _ | .fail | .mkmap _=>[]
 | .mput _ m k v | .mputP m k v=>[m,k,v]
 | .mget _ m k | .mdel _ m k | .mgetP m k=>[m,k]
 | .lend _ args _=>args
 | .cut _ x lo hi=>x :: (lo.toList ++ hi.toList)
 | .clear _ x=>[x]
 | .pick c a b=>[c,a,b]
 | .build _ ps=>ps.map fun p=>p.2.2
 | .buildSlice _ _ _ _ ps=>ps.map fun p=>p.2
 | .store _ x v=>[x,v]
 | .bin _ _ x y | .eqS _ _ x y | .indexAddr _ x y | .index x y | .indexArr _ _ x y | .idxA _ x y | .append _ _ _ x y | .makeSlice _ _ _ _ x y=>[x,y]
 | .slice _ x lo hi | .strSlice x lo hi=>x :: (lo.toList ++ hi.toList)
 | .max l | .min l=>l
 | .call _ args=>args
 | .calln _ args=>args
 | .mkfn _ caps=>caps
 | .mkfnv _ caps=>caps
 | .callv g args=>g :: args
def fU.peeks:fU->List bM
 | .load _ _ x | .nilCheck x | .fieldAddr _ x | .len x | .slice _ x _ _ | .store _ x _ | .indexAddr _ x _ | .indexArr _ _ x _ | .cut _ x _ _ | .clear _ x | .isnil _ x=>[x]
 | .append _ _ _ x y=>[x,y]
 | .mkfnv _ caps=>caps
 | .mput _ m _ _ | .mget _ m _ | .mdel _ m _ | .mputP m _ _ | .mgetP m _=>[m]
 | _=>[]
def fU.deeps:fU->List bM
 | .store _ _ v=>[v]
 | .buildSlice _ _ _ _ ps=>ps.map fun p=>p.2
 | .call _ args=>args
 | .calln _ args=>args
 | .mkfn _ caps=>caps
 | .callv _ args=>args
 | .lend _ args _=>args
 | _=>[]
def fU.new:fU->Bool
 | .alloc _ | .box _ | .mkmap _ | .buildSlice _ _ _ _ _ | .append _ _ _ _ _ | .makeSlice _ _ _ _ _ _=>true
 | _=>false
section
variable {ev ev' : bM->V} {bl bl' : Nat->Option aI}
theorem K9 {v:V} (h:∀ id ∈ v.ids1,bl id = bl' id):rF bl v = rF bl' v:=by
 cases v with
 | own id ver=>simp only [rF]; rw [h id (by simp [V.ids1])]
 | ptr id off=>simp only [rF]; rw [h id (by simp [V.ids1])]
 | mp id=>simp only [rF]; rw [h id (by simp [V.ids1])]
 | _=>rfl
theorem U5 {v:V} (h:∀ id ∈ v.ids1,bl id = bl' id):I2 bl v = I2 bl' v:=by
 cases v with
 | own id ver=>simp only [I2]; rw [h id (by simp [V.ids1])]
 | mp id=>simp only [I2]; rw [h id (by simp [V.ids1])]
 | _=>rfl
theorem jG {α β:Type} {f g:α->Option β}:∀ {l:List α},(∀ x ∈ l,f x = g x)->aK f l = aK g l
 | [],_=>rfl
 | x :: l,h=>by simp only [aK]; rw [h x (by simp),jG (fun y hy=>h y (by simp [hy]))]
theorem eK {α β:Type} {f g:α->List β}:∀ {l:List α},(∀ x ∈ l,f x = g x)->l.flatMap f = l.flatMap g
 | [],_=>rfl
 | x :: l,h=>by simp only [List.flatMap_cons]; rw [h x (by simp),eK (fun y hy=>h y (by simp [hy]))]
theorem FM {v:V} (h:∀ id ∈ v.dids1 bl,bl id = bl' id):iX bl v = iX bl' v:=by
 cases v with
 | ptr id off =>
  have e:=h id (by simp [V.dids1])
  simp only [iX]
  rw [← e]
  cases hb:bl id with
  | none=>rfl
  | some b =>
   cases b with
   | box cs =>
    simp only
    rw [jG fun x hx=>K9 fun i hi=>h i ?_]
    simp only [V.dids1,hb]
    exact List.mem_cons_of_mem _ (List.mem_flatMap.2 ⟨x,hx,hi⟩)
   | _=>rfl
 | _=>simp only [iX]; exact K9 (by simpa only [V.dids1] using h)
theorem xV {v:V} (h:∀ id ∈ v.dids1 bl,bl id = bl' id):AL bl v = AL bl' v:=by
 cases v with
 | ptr id off =>
  have e:=h id (by simp [V.dids1])
  simp only [AL]
  rw [← e]
  cases hb:bl id with
  | none=>rfl
  | some b =>
   cases b with
   | box cs =>
    have hl:∀ x ∈ cs,∀ i ∈ x.ids1,bl i = bl' i:=fun x hx i hi=>h i (by
     simp only [V.dids1,hb]
     exact List.mem_cons_of_mem _ (List.mem_flatMap.2 ⟨x,hx,hi⟩))
    simp only
    rw [jG fun x hx=>K9 (hl x hx),eK fun x hx=>U5 (hl x hx)]
   | _=>rfl
 | _=>simp only [AL]; exact U5 (by simpa only [V.dids1] using h)
theorem OX {v:V} (h:∀ id ∈ v.ids1,bl id = bl' id):v.dids1 bl = v.dids1 bl':=by
 cases v with
 | ptr id off=>simp only [V.dids1]; rw [h id (by simp [V.ids1])]
 | _=>rfl
theorem SN {v:V}:∀ id ∈ v.ids1,id ∈ v.dids1 bl:=by
 intro id h
 cases v with
 | ptr i off=>simp only [V.ids1,List.mem_singleton] at h; subst h; simp [V.dids1]
 | _=>simp only [V.dids1]; exact h
theorem qC {v:V} (h:∀ id ∈ v.ids1,bl id = bl' id):gG bl v = gG bl' v:=by
 cases v with
 | d x=>cases x <;> rfl
 | own id ver=>simp only [gG]; rw [h id (by simp [V.ids1])]
 | _=>rfl
theorem WY {v:V} (h:∀ id ∈ v.ids1,bl id = bl' id) (size:Nat) (lo hi:Option V):xB bl size v lo hi = xB bl' size v lo hi:=by
 cases v with
 | own id ver =>
  have e:=h id (by simp [V.ids1])
  rw [N5,N5]
  cases lo with
  | some l=>(dsimp only; rw [qC h,xV (v:=.own id ver) h])
  | none=>cases hi with
   | none=>(dsimp only; rw [qC h,xV (v:=.own id ver) h])
   | some x=>cases x with
    | d y=>cases y with
     | int k n=>dsimp only; rw [e]
     | _=>(dsimp only; rw [qC h,xV (v:=.own id ver) h])
    | _=>(dsimp only; rw [qC h,xV (v:=.own id ver) h])
 | d x=>cases x <;> rfl
 | _=>rfl
theorem aAW {v:V} (h:∀ id ∈ v.ids1,bl id = bl' id) (size:Nat) (lo hi:Option V):K3 bl size v lo hi = K3 bl' size v lo hi:=by
 cases v with
 | own id ver=>simp only [K3]; rw [h id (by simp [V.ids1])]
 | _=>rfl
theorem aPg {v:V}:∀ id ∈ v.ids1,id ∈ v.ids:=by
 intro id h
 cases v <;> first | exact h | simp [V.ids1] at h
theorem L7 {v:V}:∀ id ∈ v.dids1 bl,id ∈ v.dids bl:=by
 intro id h
 cases v <;> first | exact h | simp [V.dids1,V.ids1] at h
theorem aBl {v:V} (h:∀ id ∈ v.ids,bl id = bl' id):v.dids bl = v.dids bl':=by
 cases v with
 | agg cs=>exact eK fun x hx=>OX fun i hi=>h i (List.mem_flatMap.2 ⟨x,hx,hi⟩)
 | _=>simp only [V.dids]; exact OX (by simpa only [V.ids] using h)
theorem aMi {v:V}:∀ id ∈ v.ids,id ∈ v.dids bl:=by
 intro id h
 cases v with
 | agg cs =>
  obtain ⟨x,hx,hi⟩:=List.mem_flatMap.1 h
  exact List.mem_flatMap.2 ⟨x,hx,SN id hi⟩
 | _=>simp only [V.dids]; exact SN id (by simpa only [V.ids] using h)
theorem OY {v:V} (h:∀ id ∈ v.dids bl,bl id = bl' id):aK (iX bl) v.cells = aK (iX bl') v.cells:=by
 refine jG fun x hx=>FM fun id hid=>h id ?_
 cases v with
 | agg cs=>exact List.mem_flatMap.2 ⟨x,hx,hid⟩
 | _=>simp only [V.cells,List.mem_singleton] at hx; subst hx; exact L7 id hid
theorem vA {v:V} (h:∀ id ∈ v.dids bl,bl id = bl' id):iY bl v = iY bl' v:=by
 cases v with
 | agg cs =>
  simp only [iY]
  rw [jG fun x hx=>FM fun id hid=>h id (List.mem_flatMap.2 ⟨x,hx,hid⟩)]
 | _=>simp only [iY]; exact FM fun id hid=>h id (L7 id hid)
theorem xP {v:V} (h:∀ id ∈ v.dids bl,bl id = bl' id):vX bl v = vX bl' v:=by
 cases v with
 | agg cs=>exact eK fun x hx=>xV fun id hid=>h id (List.mem_flatMap.2 ⟨x,hx,hid⟩)
 | _=>simp only [vX]; exact xV fun id hid=>h id (L7 id hid)
theorem G0 (size:Nat):∀ (ps:List (Nat × V)) (rs:List (List D)),(∀ p ∈ ps,∀ id ∈ p.2.dids bl,bl id = bl' id)->kZ bl size rs ps = kZ bl' size rs ps
 | [],rs,_=>rfl
 | (i,v) :: r,rs,h=>by
  simp only [kZ]
  rw [OY (h (i,v) (by simp))]
  cases aK (iX bl') v.cells with
  | none=>rfl
  | some row=>simp only; rw [G0 size r _ fun p hp=>h p (by simp [hp])]
theorem OM (t:Nat):∀ (vs:List V),(∀ v ∈ vs,∀ id ∈ v.dids bl,bl id = bl' id)->∀ i,D0 bl t i vs = D0 bl' t i vs
 | [],_,_=>rfl
 | v :: r,h,i=>by
  simp only [D0]
  rw [OM t r (fun x hx=>h x (List.mem_cons_of_mem _ hx)) (i + 1),vA (h v (List.mem_cons_self ..))]
  have e:M6 bl v = M6 bl' v:=by
   cases v with
   | own id ver=>simp only [M6]; rw [h _ (List.mem_cons_self ..) id (by simp [V.dids,V.dids1,V.ids1])]
   | _=>rfl
  rw [e]
theorem L2 (t:Nat):∀ (vs:List V),(∀ v ∈ vs,∀ id ∈ v.dids bl,bl id = bl' id)->∀ i,tH bl t i vs = tH bl' t i vs
 | [],_,_=>rfl
 | v :: r,h,i=>by
  simp only [tH]
  rw [L2 t r (fun x hx=>h x (List.mem_cons_of_mem _ hx)) (i + 1),xP (h v (List.mem_cons_self ..))]
theorem aCh {v:V} (h:∀ id ∈ v.ids,bl id = bl' id):NM bl v = NM bl' v:=by
 cases v with
 | ptr id off=>simp only [NM]; rw [h id (by simp [V.ids,V.ids1])]
 | _=>rfl
def fU.isCall:fU->Bool
 | .call _ _ | .callv _ _ | .calln _ _=>true
 | _=>false
theorem PM:∀ {l:List (Nat × Option aI)},(∀ p ∈ l,bl p.1 = bl' p.1)->MM bl l = MM bl' l
 | [],_=>rfl
 | (i,b) :: l,h=>by
  simp only [MM]
  rw [h (i,b) (by simp),PM fun p hp=>h p (by simp [hp])]
theorem CX {site:Nat} {fz wr:List (Nat × Option aI)} {r:D} {v:V} (h:∀ p ∈ wr,bl p.1 = bl' p.1) (hs:oB site bl fz r = some (v,wr)):oB site bl' fz r = some (v,wr):=by
 by_cases hx:∃ y es rs,r = .own y es rs
 ·obtain ⟨y,es,rs,rfl⟩:=hx
  simp only [oB] at hs ⊢
  split at hs
  ·rename_i hf
   cases hs
   rw [← PM (bl:=bl) fun p hp=>h p (List.mem_append.2 (.inl hp)),if_pos hf]
  ·cases hs
 ·have hx:∀ y es rs,r ≠ .own y es rs:=fun y es rs e=>hx ⟨y,es,rs,e⟩
  rw [EF hx] at hs ⊢
  exact hs
theorem N7 {C:Nat->List D->Option D} {site:Nat} (so:fU) (h5:so.isCall = true->∀ fz r,oB site bl fz r = oB site bl' fz r) (h1:∀ x ∈ so.opds,ev x = ev' x) (h2:∀ x ∈ so.peeks,∀ id ∈ (ev x).ids,bl id = bl' id) (h2' : ∀ x ∈ so.deeps,∀ id ∈ (ev x).dids bl,bl id = bl' id) (h3:so.new = true->bl site = bl' site):cJ C site ev bl so = cJ C site ev' bl' so:=by
 have one:∀ x ∈ so.peeks,∀ id ∈ (ev x).ids1,bl id = bl' id:=fun x hx id hid=>h2 x hx id (aPg id hid)
 cases so with
 | fail=>rfl
 | move x=>simp only [cJ]; rw [h1 x (by simp [fU.opds])]
 | pick c a b=>simp only [cJ]; rw [h1 c (by simp [fU.opds]),h1 a (by simp [fU.opds]),h1 b (by simp [fU.opds])]
 | alloc z=>simp only [cJ]; rw [h3 rfl]
 | box x=>simp only [cJ]; rw [h3 rfl,h1 x (by simp [fU.opds])]
 | build z ps =>
  simp only [cJ]
  have:(ps.map fun (x:Nat × Nat × bM)=>(x.1,x.2.1,ev x.2.2)) = ps.map fun x=>(x.1,x.2.1,ev' x.2.2):=List.map_congr_left fun p hp=>by rw [h1 p.2.2 (List.mem_map.2 ⟨p,hp,rfl⟩)]
  exact congrArg (fun q=>(G5 z q).map fun cs=>(V.agg cs,([]:List (Nat × Option aI)))) this
 | buildSlice e size z n ps =>
  simp only [cJ]
  have e1:(ps.map fun (x:Nat × bM)=>(x.1,ev x.2)) = ps.map fun x=>(x.1,ev' x.2):=List.map_congr_left fun p hp=>by rw [h1 p.2 (List.mem_map.2 ⟨p,hp,rfl⟩)]
  have e2:kZ bl size (List.replicate n z) (ps.map fun (x:Nat × bM)=>(x.1,ev x.2)) = kZ bl' size (List.replicate n z) (ps.map fun (x:Nat × bM)=>(x.1,ev x.2)):=G0 size _ _ fun p hp id hid=>by
   obtain ⟨q,hq,rfl⟩:=List.mem_map.1 hp
   exact h2' q.2 (List.mem_map.2 ⟨q,hq,rfl⟩) id hid
  have e3:(ps.flatMap fun (x:Nat × bM)=>vX bl (ev x.2)) = ps.flatMap fun x=>vX bl' (ev' x.2):=eK fun p hp=>by
   rw [xP (h2' p.2 (List.mem_map.2 ⟨p,hp,rfl⟩)),h1 p.2 (List.mem_map.2 ⟨p,hp,rfl⟩)]
  rw [h3 rfl]
  have e4:=e2.trans (congrArg (kZ bl' size (List.replicate n z)) e1)
  cases bl' site with
  | some _=>rfl
  | none =>
   show (match kZ bl size (List.replicate n z) (ps.map fun (x:Nat × bM)=>(x.1,ev x.2)) with
    | some rows=>some (V.own site 0,(site,some (aI.rows 0 e size rows)) :: ps.flatMap fun (x:Nat × bM)=>vX bl (ev x.2))
    | none=>none) = _
   rw [e4,e3]
   rfl
 | load size g x =>
  have e1:=h1 x (by simp [fU.opds])
  have e2:=one x (by simp [fU.peeks])
  simp only [cJ]
  rw [← e1]
  cases hx:ev x <;> first | rfl | (rename_i y; cases y <;> rfl) | (dsimp only; rw [e2 _ (by rw [hx]; simp [V.ids1])])
 | store size x v =>
  have e1:=h1 x (by simp [fU.opds])
  have e2:=one x (by simp [fU.peeks])
  have e3:=h1 v (by simp [fU.opds])
  have e4:=h2' v (by simp [fU.deeps])
  simp only [cJ]
  rw [← e1,← e3,OY e4,xP e4]
  cases hx:ev x <;> first | rfl | (rename_i y; cases y <;> rfl) | (dsimp only; rw [e2 _ (by rw [hx]; simp [V.ids1])])
 | nilCheck x =>
  have e1:=h1 x (by simp [fU.opds])
  have e2:=one x (by simp [fU.peeks])
  simp only [cJ]
  rw [← e1]
  cases hx:ev x <;> first | rfl | (rename_i y; cases y <;> rfl) | (dsimp only; rw [e2 _ (by rw [hx]; simp [V.ids1])])
 | bin c op x y=>simp only [cJ]; rw [h1 x (by simp [fU.opds]),h1 y (by simp [fU.opds])]
 | eqS ks neg x y=>simp only [cJ]; rw [h1 x (by simp [fU.opds]),h1 y (by simp [fU.opds])]
 | un op x=>simp only [cJ]; rw [h1 x (by simp [fU.opds])]
 | conv k x=>simp only [cJ]; rw [h1 x (by simp [fU.opds])]
 | slice size x lo hi =>
  have e1:=h1 x (by simp [fU.opds])
  have e2:=one x (by simp [fU.peeks])
  have e3:lo.map ev = lo.map ev':=by cases lo with | none=>rfl | some y=>simp [h1 y (by simp [fU.opds])]
  have e4:hi.map ev = hi.map ev':=by cases hi with | none=>rfl | some y=>simp [h1 y (by simp [fU.opds])]
  simp only [cJ]
  rw [← e1,← e3,← e4,WY e2]
 | cut size x lo hi =>
  have e1:=h1 x (by simp [fU.opds])
  have e2:=one x (by simp [fU.peeks])
  have e3:lo.map ev = lo.map ev':=by cases lo with | none=>rfl | some y=>simp [h1 y (by simp [fU.opds])]
  have e4:hi.map ev = hi.map ev':=by cases hi with | none=>rfl | some y=>simp [h1 y (by simp [fU.opds])]
  simp only [cJ]
  rw [← e1,← e3,← e4,aAW e2]
 | isnil neg x =>
  have e1:=h1 x (by simp [fU.opds])
  have e2:=one x (by simp [fU.peeks])
  simp only [cJ]
  rw [← e1]
  unfold K4
  cases hx:ev x <;> first | rfl | (rename_i y; cases y <;> rfl) | (dsimp only; rw [qC (fun id hid=>e2 id (by rw [hx]; exact hid))])
 | mkmap ek=>simp only [cJ]; rw [h3 rfl]
 | mput ek m k v =>
  have e1:=h1 m (by simp [fU.opds])
  have e2:=one m (by simp [fU.peeks])
  have e3:=h1 k (by simp [fU.opds])
  have e4:=h1 v (by simp [fU.opds])
  simp only [cJ]
  rw [← e1,← e3,← e4]
  cases J2 (ev k) <;> cases aHf (ev v) <;> cases hx:ev m <;> first | rfl | (rename_i y; cases y <;> rfl) | (dsimp only; rw [e2 _ (by rw [hx]; simp [V.ids1])])
 | mputP m k v =>
  have e1:=h1 m (by simp [fU.opds])
  have e2:=one m (by simp [fU.peeks])
  have e3:=h1 k (by simp [fU.opds])
  have e4:=h1 v (by simp [fU.opds])
  simp only [cJ]
  rw [← e1,← e3,← e4]
  cases UO (ev k) <;> cases aDF (ev v) <;> cases hx:ev m <;> first | rfl | (rename_i y; cases y <;> rfl) | (dsimp only; rw [e2 _ (by rw [hx]; simp [V.ids1])])
 | mgetP m k =>
  have e1:=h1 m (by simp [fU.opds])
  have e2:=one m (by simp [fU.peeks])
  have e3:=h1 k (by simp [fU.opds])
  simp only [cJ]
  rw [← e1,← e3]
  cases UO (ev k) <;> cases hx:ev m <;> first | rfl | (rename_i y; cases y <;> rfl) | (dsimp only; rw [e2 _ (by rw [hx]; simp [V.ids1])])
 | mget z m k =>
  have e1:=h1 m (by simp [fU.opds])
  have e2:=one m (by simp [fU.peeks])
  have e3:=h1 k (by simp [fU.opds])
  simp only [cJ]
  rw [← e1,← e3]
  have e4:S3 bl (ev m) = S3 bl' (ev m):=by
   unfold S3
   cases hx:ev m <;> first | rfl | (rename_i y; cases y <;> rfl) | (dsimp only; rw [e2 _ (by rw [hx]; simp [V.ids1])])
  rw [e4]
 | mdel ek m k =>
  have e1:=h1 m (by simp [fU.opds])
  have e2:=one m (by simp [fU.peeks])
  have e3:=h1 k (by simp [fU.opds])
  simp only [cJ]
  rw [← e1,← e3]
  cases J2 (ev k) <;> cases hx:ev m <;> first | rfl | (dsimp only; rw [e2 _ (by rw [hx]; simp [V.ids1])]; done) | (rename_i y; cases y <;> first | rfl | (rename_i q l; rcases q with _ | _ | _ | q <;> cases l <;> rfl))
 | clear z x =>
  have e1:=h1 x (by simp [fU.opds])
  have e2:=one x (by simp [fU.peeks])
  simp only [cJ]
  rw [← e1]
  cases hx:ev x <;> first | rfl | (rename_i y; cases y <;> rfl) | (dsimp only; rw [e2 _ (by rw [hx]; simp [V.ids1])])
 | lend f args t =>
  have e0:args.map ev = args.map ev':=List.map_congr_left fun x hx=>h1 x hx
  have hd2:∀ v ∈ args.map ev,∀ id ∈ v.dids bl,bl id = bl' id:=fun v hv id hid=>by
   obtain ⟨x,hx,rfl⟩:=List.mem_map.1 hv
   exact h2' x hx id hid
  simp only [cJ]
  rw [← e0]
  generalize args.map ev = vs at hd2
  rw [← OM t vs hd2 0,← L2 t vs hd2 0]
  cases hv:vs[t]? with
  | none=>rfl
  | some v=>cases v with
   | own id ver =>
    dsimp only
    rw [hd2 _ (List.mem_of_getElem? hv) id (by simp [V.dids,V.dids1,V.ids1])]
   | _=>rfl
 | strSlice x lo hi =>
  have e1:=h1 x (by simp [fU.opds])
  have e3:lo.map ev = lo.map ev':=by cases lo with | none=>rfl | some y=>simp [h1 y (by simp [fU.opds])]
  have e4:hi.map ev = hi.map ev':=by cases hi with | none=>rfl | some y=>simp [h1 y (by simp [fU.opds])]
  simp only [cJ]
  rw [← e1,← e3,← e4]
 | fieldAddr off x =>
  have e1:=h1 x (by simp [fU.opds])
  have e2:=one x (by simp [fU.peeks])
  simp only [cJ]
  rw [← e1]
  cases hx:ev x <;> first | rfl | (rename_i y; cases y <;> rfl) | (dsimp only; rw [e2 _ (by rw [hx]; simp [V.ids1])])
 | field off size g x=>simp only [cJ]; rw [h1 x (by simp [fU.opds])]
 | isnp neg x=>simp only [cJ]; rw [h1 x (by simp [fU.opds])]
 | idxA n x i=>simp only [cJ]; rw [h1 x (by simp [fU.opds]),h1 i (by simp [fU.opds])]
 | indexArr n size x i =>
  have e1:=h1 x (by simp [fU.opds])
  have e2:=one x (by simp [fU.peeks])
  have e3:=h1 i (by simp [fU.opds])
  simp only [cJ]
  rw [← e1,← e3]
  cases hx:ev x <;> first | rfl | (rename_i y; cases y <;> rfl) | (dsimp only; rw [e2 _ (by rw [hx]; simp [V.ids1])])
 | indexAddr size x i =>
  have e1:=h1 x (by simp [fU.opds])
  have e2:=one x (by simp [fU.peeks])
  have e3:=h1 i (by simp [fU.opds])
  simp only [cJ]
  rw [← e1,← e3]
  cases hx:ev x <;> first | rfl | (rename_i y; cases y <;> rfl) | (dsimp only; rw [e2 _ (by rw [hx]; simp [V.ids1])])
 | index x i=>simp only [cJ]; rw [h1 x (by simp [fU.opds]),h1 i (by simp [fU.opds])]
 | len x =>
  simp only [cJ]; rw [qC (one x (by simp [fU.peeks])),h1 x (by simp [fU.opds])]
 | lenS x=>simp only [cJ]; rw [h1 x (by simp [fU.opds])]
 | append e size bytes x y =>
  have e1:=h1 x (by simp [fU.opds])
  have e2:=one x (by simp [fU.peeks])
  simp only [cJ]
  rw [qC (one y (by simp [fU.peeks])),← e1,← h1 y (by simp [fU.opds]),h3 rfl]
  cases hx:ev x <;> first | rfl | (dsimp only; rw [e2 _ (by rw [hx]; simp [V.ids1])])
 | makeSlice e size bytes z l c=>simp only [cJ]; rw [h3 rfl,h1 l (by simp [fU.opds]),h1 c (by simp [fU.opds])]
 | max l=>simp only [cJ]; rw [show l.map ev = l.map ev' from List.map_congr_left (fun x hx=>h1 x hx)]
 | min l=>simp only [cJ]; rw [show l.map ev = l.map ev' from List.map_congr_left (fun x hx=>h1 x hx)]
 | extract x i=>simp only [cJ]; rw [h1 x (by simp [fU.opds])]
 | bytes x=>simp only [cJ]; rw [h1 x (by simp [fU.opds])]
 | call f args =>
  simp only [cJ]
  have e1:aK (fun x=>iY bl (ev x)) args = aK (fun x=>iY bl' (ev' x)) args:=jG fun x hx=>by
   rw [vA (h2' x hx),h1 x hx]
  have e2:(args.flatMap fun x=>vX bl (ev x)) = args.flatMap fun x=>vX bl' (ev' x):=eK fun x hx=>by
   rw [xP (h2' x hx),h1 x hx]
  rw [e1,e2]
  simp only [h5 rfl]
 | calln f args =>
  simp only [cJ]
  have e1:aK (fun x=>iY bl (ev x)) args = aK (fun x=>iY bl' (ev' x)) args:=jG fun x hx=>by
   rw [vA (h2' x hx),h1 x hx]
  rw [e1]
  simp only [h5 rfl]
 | mkfn f caps =>
  simp only [cJ]
  have d1:∀ x ∈ caps,∀ id ∈ (ev x).dids1 bl,bl id = bl' id:=fun x hx id hid=>h2' x hx id (L7 id hid)
  have e1:aK (fun x=>iX bl (ev x)) caps = aK (fun x=>iX bl' (ev' x)) caps:=jG fun x hx=>by
   rw [FM (d1 x hx),h1 x hx]
  have e2:(caps.flatMap fun x=>AL bl (ev x)) = caps.flatMap fun x=>AL bl' (ev' x):=eK fun x hx=>by
   rw [xV (d1 x hx),h1 x hx]
  rw [e1,e2]
 | mkfnv f caps =>
  simp only [cJ]
  have e0:caps.map ev = caps.map ev':=List.map_congr_left fun x hx=>h1 x hx
  have e1:(caps.map ev).all (NM bl) = (caps.map ev').all (NM bl'):=by
   rw [← e0]
   rw [Bool.eq_iff_iff,List.all_eq_true,List.all_eq_true]
   have key:∀ y ∈ caps.map ev,NM bl y = NM bl' y:=fun y hy=>by
    obtain ⟨x,hx,rfl⟩:=List.mem_map.1 hy
    exact aCh fun id hid=>h2 x hx id hid
   exact ⟨fun q y hy=>(key y hy).symm.trans (q y hy),fun q y hy=>(key y hy).trans (q y hy)⟩
  rw [e1,e0]
 | callv g args =>
  simp only [cJ]
  have e1:aK (fun x=>iY bl (ev x)) args = aK (fun x=>iY bl' (ev' x)) args:=jG fun x hx=>by
   rw [vA (h2' x hx),h1 x (List.mem_cons_of_mem _ hx)]
  have e2:(args.flatMap fun x=>vX bl (ev x)) = args.flatMap fun x=>vX bl' (ev' x):=eK fun x hx=>by
   rw [xP (h2' x hx),h1 x (List.mem_cons_of_mem _ hx)]
  rw [e1,e2,h1 g (List.mem_cons_self ..)]
  simp only [h5 rfl]
theorem aCP {C:Nat->List D->Option D} {site:Nat} {v:V} {wr:List (Nat × Option aI)} (so:fU) (h1:∀ x ∈ so.opds,ev x = ev' x) (h2:∀ x ∈ so.peeks,∀ id ∈ (ev x).ids,bl id = bl' id) (h2' : ∀ x ∈ so.deeps,∀ id ∈ (ev x).dids bl,bl id = bl' id) (h3:so.new = true->bl site = bl' site)
  (h4:∀ p ∈ wr,bl p.1 = bl' p.1) (hs:cJ C site ev bl so = some (v,wr)):cJ C site ev' bl' so = some (v,wr):=by
 cases hc:so.isCall with
 | false=>exact (N7 so (fun e=>by rw [hc] at e; cases e) h1 h2 h2' h3).symm.trans hs
 | true =>
  cases so with
  | call f args =>
   simp only [cJ] at hs ⊢
   have e1:aK (fun x=>iY bl (ev x)) args = aK (fun x=>iY bl' (ev' x)) args:=jG fun x hx=>by
    rw [vA (h2' x hx),h1 x hx]
   have e2:(args.flatMap fun x=>vX bl (ev x)) = args.flatMap fun x=>vX bl' (ev' x):=eK fun x hx=>by
    rw [xP (h2' x hx),h1 x hx]
   rw [e1,e2] at hs
   split at hs
   ·cases hs
   ·split at hs
    ·cases hs
    ·exact CX h4 hs
  | calln f args =>
   simp only [cJ] at hs ⊢
   have e1:aK (fun x=>iY bl (ev x)) args = aK (fun x=>iY bl' (ev' x)) args:=jG fun x hx=>by
    rw [vA (h2' x hx),h1 x hx]
   rw [e1] at hs
   split at hs
   ·cases hs
   ·split at hs
    ·split at hs
     ·rename_i hn
      rw [if_pos hn]
      exact CX h4 hs
     ·cases hs
    ·cases hs
  | callv g args =>
   simp only [cJ] at hs ⊢
   have e1:aK (fun x=>iY bl (ev x)) args = aK (fun x=>iY bl' (ev' x)) args:=jG fun x hx=>by
    rw [vA (h2' x hx),h1 x (List.mem_cons_of_mem _ hx)]
   have e2:(args.flatMap fun x=>vX bl (ev x)) = args.flatMap fun x=>vX bl' (ev' x):=eK fun x hx=>by
    rw [xP (h2' x hx),h1 x (List.mem_cons_of_mem _ hx)]
   rw [e1,e2,h1 g (List.mem_cons_self ..)] at hs
   split at hs
   ·split at hs
    ·cases hs
    ·split at hs
     ·cases hs
     ·exact CX h4 hs
   ·cases hs
  | _=>cases hc
end
end Vm
end Go.Proofs.Ytgjcnbgfaimepaa
namespace Go.Proofs.Ytgjcnbgfaimepaa
namespace Vm
open Go.RowKit
abbrev Fn:=(Nat->V) × (Nat->Option aI)
abbrev Fp:=List Nat × List Nat
def yB (o:aO) (fr:Nat->V) (bl:Nat->Option aI) (wr:List (Nat × Option aI)):Fp:=((if o.op.new = true then [o.site] else []) ++ ((o.op.peeks.flatMap fun x=>(bL fr x).ids) ++ o.op.deeps.flatMap fun x=>(bL fr x).dids bl),wr.map (·.1))
theorem aBz {o:fU} {x:bM} (h:x ∈ o.peeks):x ∈ o.opds:=by
 cases o <;> simp only [fU.peeks,fU.opds,List.mem_cons,List.mem_singleton,List.not_mem_nil,or_false] at h ⊢ <;> first | (exact h.elim) | (exact .inl h) | (exact h) | skip
theorem aBE {o:fU} {x:bM} (h:x ∈ o.deeps):x ∈ o.opds:=by
 cases o <;> simp only [fU.deeps,fU.opds,List.mem_cons,List.mem_singleton,List.not_mem_nil,or_false] at h ⊢ <;> first | (exact h.elim) | (exact .inr h) | (exact h) | skip
theorem aD9 {o:aO} {fr fr' : Nat->V} {bl:Nat->Option aI} {wr:List (Nat × Option aI)} (h:∀ x ∈ o.op.opds,bL fr x = bL fr' x):yB o fr bl wr = yB o fr' bl wr:=by
 simp only [yB]
 rw [eK (l:=o.op.peeks) fun z hz=>by rw [h z (aBz hz)],eK (l:=o.op.deeps) fun z hz=>by rw [h z (aBE hz)]]
theorem aQq {o:aO} {fr:Nat->V} {bl bl' : Nat->Option aI} {wr:List (Nat × Option aI)} (h:∀ i ∈ (yB o fr bl wr).1,bl i = bl' i):yB o fr bl wr = yB o fr bl' wr:=by
 have h' : ∀ x ∈ o.op.deeps,∀ id ∈ (bL fr x).dids bl,bl id = bl' id:=fun x hx id hid=>h id (List.mem_append.2 (.inr (List.mem_append.2 (.inr (List.mem_flatMap.2 ⟨x,hx,hid⟩)))))
 simp only [yB]
 rw [eK (l:=o.op.deeps) fun z hz=>aBl fun id hid=>h' z hz id (aMi id hid)]
theorem aJ2 {C:Nat->List D->Option D} {o:aO} {fr fr' : Nat->V} {bl bl' : Nat->Option aI} {v:V} {wr:List (Nat × Option aI)} (h1:∀ x ∈ o.op.opds,bL fr x = bL fr' x) (h:∀ i ∈ (yB o fr bl wr).1,bl i = bl' i) (h4:∀ p ∈ wr,bl p.1 = bl' p.1) (hs:cJ C o.site (bL fr) bl o.op = some (v,wr)):cJ C o.site (bL fr') bl' o.op = some (v,wr) :=
 aCP o.op h1 (fun x hx id hid=>h id (List.mem_append.2 (.inr (List.mem_append.2 (.inl (List.mem_flatMap.2 ⟨x,hx,hid⟩))))))
  (fun x hx id hid=>h id (List.mem_append.2 (.inr (List.mem_append.2 (.inr (List.mem_flatMap.2 ⟨x,hx,hid⟩))))))
  (fun hn=>h _ (List.mem_append.2 (.inl (by rw [if_pos hn]; simp)))) h4 hs
def GD (C:Nat->List D->Option D) (o:aO) (s:Fn):Option (Fn × Fp):=match o.wants s.1 with
 | .run=>match cJ C o.site (bL s.1) s.2 o.op with
  | some (v,wr)=>some ((eN s.1 o.dst v,bP s.2 wr),yB o s.1 s.2 wr)
  | none=>none
 | .skip=>some ((eN s.1 o.dst (.tup []),s.2),([],[]))
 | .bad=>none
def aO.looks (o:aO):List Nat:=(o.op.opds.filterMap fun x=>match x with | .t n=>some n | .c _=>none) ++ (match o.guard with | some (t,_)=>[t] | none=>[])
def ind (x y:aO) (p q:Fp):Bool :=
 (match x.dst with | some d=>!(y.looks.contains d) && y.dst != some d | none=>true) && (match y.dst with | some d=>!(x.looks.contains d) | none=>true) &&
 p.2.all (fun i=>!(q.1.contains i) && !(q.2.contains i)) && q.2.all (fun i=>!(p.1.contains i))
theorem P3 {fr:Nat->V} {dst:Option Nat} {v:V} {x:bM} {l:List Nat} (h:∀ n,x = .t n->n ∈ l) (hd:∀ d,dst = some d->d ∉ l):bL (eN fr dst v) x = bL fr x:=by
 cases x with
 | c u=>rfl
 | t n =>
  simp only [bL,eN]
  rw [if_neg]
  intro e
  exact hd n e (h n rfl)
theorem FZ {o:aO} {x:bM} (hx:x ∈ o.op.opds) {n:Nat} (e:x = .t n):n ∈ o.looks:=by
 subst e
 exact List.mem_append.2 (.inl (List.mem_filterMap.2 ⟨_,hx,rfl⟩))
theorem AM {o:aO} {fr:Nat->V} {dst:Option Nat} {v:V} (hd:∀ d,dst = some d->d ∉ o.looks):o.wants (eN fr dst v) = o.wants fr:=by
 unfold aO.wants
 cases hg:o.guard with
 | none=>rfl
 | some p =>
  obtain ⟨t,b⟩:=p
  have:eN fr dst v t = fr t:=by
   simp only [eN]
   rw [if_neg]
   intro e
   exact hd t e (List.mem_append.2 (.inr (by rw [hg]; simp)))
  simp only [this]
theorem uA {bl:Nat->Option aI} {wr:List (Nat × Option aI)} {i:Nat} (h:i ∉ wr.map (·.1)):bP bl wr i = bl i:=by
 unfold bP
 rcases zQ wr (bl i) i with q | ⟨p,q1,q2,q3⟩
 ·exact q
 ·exact absurd (List.mem_map.2 ⟨p,q1,q2⟩) h
theorem aEt {bl bl' : Nat->Option aI} {wr:List (Nat × Option aI)} {i:Nat} (h:i ∈ wr.map (·.1)):bP bl wr i = bP bl' wr i:=by
 induction wr with
 | nil=>simp at h
 | cons p r ih =>
  obtain ⟨k,b⟩:=p
  simp only [bP,lk]
  by_cases e:i = k
  ·rw [if_pos e,if_pos e]
  ·rw [if_neg e,if_neg e]
   exact ih (by simpa [e] using h)
theorem I3 (fr:Nat->V) {d e:Option Nat} (u v:V) (h:∀ x,d = some x->e ≠ some x):eN (eN fr d u) e v = eN (eN fr e v) d u:=by
 funext t
 simp only [eN]
 by_cases h1:e = some t
 ·have h2:d ≠ some t:=fun h2=>h t h2 h1
  rw [if_pos h1,if_neg h2,if_pos h1]
 ·rw [if_neg h1,if_neg h1]
theorem aFS (bl:Nat->Option aI) (wi wj:List (Nat × Option aI)) (h:∀ i ∈ wi.map (·.1),i ∉ wj.map (·.1)):bP (bP bl wi) wj = bP (bP bl wj) wi:=by
 funext i
 by_cases hi:i ∈ wi.map (·.1)
 ·have hj:=h i hi
  rw [uA hj]
  exact aEt hi
 ·rw [uA (bl:=bP bl wj) hi]
  by_cases hj:i ∈ wj.map (·.1)
  ·exact aEt hj
  ·rw [uA hj,uA hj,uA hi]
theorem swap {C:Nat->List D->Option D} {x y:aO} {s s1 s2:Fn} {p q:Fp} (h1:GD C x s = some (s1,p)) (h2:GD C y s1 = some (s2,q)) (hi:ind x y p q = true) :
  ∃ s1',GD C y s = some (s1',q) ∧ GD C x s1' = some (s2,p):=by
 obtain ⟨fr,bl⟩:=s
 simp only [ind,Bool.and_eq_true] at hi
 obtain ⟨⟨⟨i1,i2⟩,i3⟩,i4⟩:=hi
 have dx:∀ d,x.dst = some d->d ∉ y.looks ∧ y.dst ≠ some d:=by
  intro d e
  rw [e] at i1
  simp only [Bool.and_eq_true,Bool.not_eq_true',bne_iff_ne,ne_eq] at i1
  exact ⟨fun hm=>by simp [hm] at i1,i1.2⟩
 have dy:∀ d,y.dst = some d->d ∉ x.looks:=by
  intro d e
  rw [e] at i2
  intro hm
  simp [hm] at i2
 -- the first step
 simp only [GD] at h1
 -- by the guard of x
 cases hwx:x.wants fr with
 | bad=>rw [hwx] at h1; cases h1
 | skip =>
  rw [hwx] at h1
  cases h1
  simp only [GD,AM (fun d e=>(dx d e).1)] at h2 ⊢
  cases hwy:y.wants fr with
  | bad=>rw [hwy] at h2; cases h2
  | skip =>
   rw [hwy] at h2
   cases h2
   refine ⟨_,rfl,?_⟩
   simp only [AM dy,hwx]
   rw [I3 fr (.tup []) (.tup []) (fun d e=>(dx d e).2)]
  | run =>
   rw [hwy] at h2
   simp only at h2 ⊢
   have hev:∀ z ∈ y.op.opds,bL (eN fr x.dst (.tup [])) z = bL fr z:=fun z hz=>P3 (l:=y.looks) (fun n e=>FZ hz e) (fun d e=>(dx d e).1)
   have hloc:cJ C y.site (bL (eN fr x.dst (.tup []))) bl y.op = cJ C y.site (bL fr) bl y.op:=N7 y.op (fun _ _ _=>rfl) hev (fun _ _ _ _=>rfl) (fun _ _ _ _=>rfl) (fun _=>rfl)
   have hfp:∀ wr,yB y (eN fr x.dst (.tup [])) bl wr = yB y fr bl wr:=fun wr=>aD9 hev
   rw [hloc] at h2
   cases ha:cJ C y.site (bL fr) bl y.op with
   | none=>rw [ha] at h2; cases h2
   | some r =>
    obtain ⟨v,wr⟩:=r
    rw [ha] at h2
    simp only [hfp] at h2
    cases h2
    refine ⟨_,rfl,?_⟩
    simp only [AM dy,hwx]
    rw [I3 fr (.tup []) v (fun d e=>(dx d e).2)]
 | run =>
  rw [hwx] at h1
  simp only at h1
  cases hax:cJ C x.site (bL fr) bl x.op with
  | none=>rw [hax] at h1; cases h1
  | some rx =>
   obtain ⟨vx,wx⟩:=rx
   rw [hax] at h1
   cases h1
   simp only [GD,AM (fun d e=>(dx d e).1)] at h2 ⊢
   cases hwy:y.wants fr with
   | bad=>rw [hwy] at h2; cases h2
   | skip =>
    rw [hwy] at h2
    cases h2
    refine ⟨_,rfl,?_⟩
    simp only [AM dy,hwx]
    have hev:∀ z ∈ x.op.opds,bL (eN fr y.dst (.tup [])) z = bL fr z:=fun z hz=>P3 (l:=x.looks) (fun n e=>FZ hz e) dy
    have hloc:cJ C x.site (bL (eN fr y.dst (.tup []))) bl x.op = cJ C x.site (bL fr) bl x.op:=N7 x.op (fun _ _ _=>rfl) hev (fun _ _ _ _=>rfl) (fun _ _ _ _=>rfl) (fun _=>rfl)
    rw [hloc,hax]
    have hfp:yB x (eN fr y.dst (.tup [])) bl wx = yB x fr bl wx:=aD9 hev
    simp only [hfp]
    rw [I3 fr vx (.tup []) (fun d e=>(dx d e).2)]
   | run =>
    rw [hwy] at h2
    simp only at h2 ⊢
    cases hay:cJ C y.site (bL (eN fr x.dst vx)) (bP bl wx) y.op with
    | none=>rw [hay] at h2; cases h2
    | some ry =>
     obtain ⟨vy,wy⟩:=ry
     rw [hay] at h2
     have hevy:∀ z ∈ y.op.opds,bL (eN fr x.dst vx) z = bL fr z:=fun z hz=>P3 (l:=y.looks) (fun n e=>FZ hz e) (fun d e=>(dx d e).1)
     have hevx:∀ z ∈ x.op.opds,bL (eN fr y.dst vy) z = bL fr z:=fun z hz=>P3 (l:=x.looks) (fun n e=>FZ hz e) dy
     have hfpy:yB y (eN fr x.dst vx) (bP bl wx) wy = yB y fr (bP bl wx) wy:=aD9 hevy
     simp only [hfpy] at h2
     cases h2
     -- what y reads x does not write
     have j3:∀ i ∈ wx.map (·.1),i ∉ (yB y fr (bP bl wx) wy).1 ∧ i ∉ (yB y fr (bP bl wx) wy).2:=by
      intro i hi
      have:=List.all_eq_true.1 i3 i hi
      simp only [Bool.and_eq_true,Bool.not_eq_true'] at this
      exact ⟨fun hm=>by simp [hm] at this,fun hm=>by simp [hm] at this⟩
     have j4:∀ i ∈ wy.map (·.1),i ∉ (yB x fr bl wx).1:=by
      intro i hi hm
      have:=List.all_eq_true.1 i4 i hi
      simp [hm] at this
     have hby:∀ i ∈ (yB y fr (bP bl wx) wy).1,bP bl wx i = bl i:=fun i hi=>uA fun hm=>(j3 i hm).1 hi
     have hbx:∀ i ∈ (yB x fr bl wx).1,bl i = bP bl wy i:=fun i hi=>(uA fun hm=>j4 i hm hi).symm
     have hay:cJ C y.site (bL fr) bl y.op = some (vy,wy):=aJ2 (wr:=wy) hevy (by rw [hfpy]; exact hby) (fun p hp=>uA fun hm=>(j3 p.1 hm).2 (List.mem_map.2 ⟨p,hp,rfl⟩)) hay
     rw [hay]
     rw [aQq hby]
     refine ⟨_,rfl,?_⟩
     simp only [AM dy,hwx]
     have hlocx:cJ C x.site (bL (eN fr y.dst vy)) (bP bl wy) x.op = some (vx,wx):=aJ2 (wr:=wx) (fun z hz=>(hevx z hz).symm) hbx (fun p hp=>(uA fun hm=>(j3 p.1 (List.mem_map.2 ⟨p,hp,rfl⟩)).2 hm).symm) hax
     rw [hlocx]
     have hfpx:yB x (eN fr y.dst vy) (bP bl wy) wx = yB x fr bl wx:=(aD9 hevx).trans (aQq hbx).symm
     simp only [hfpx]
     rw [I3 fr vx vy (fun d e=>(dx d e).2),aFS bl wx wy fun i hi=>(j3 i hi).2]
def xD (C:Nat->List D->Option D) (l:List aO) (fp:Nat->Fp):List Nat->Fn->Fn->Prop
 | [],s,s'=>s = s'
 | i :: L,s,s'=>∃ o s1,l[i]? = some o ∧ GD C o s = some (s1,fp i) ∧ xD C l fp L s1 s'
def Ind (l:List aO) (fp:Nat->Fp) (j i:Nat):Prop:=∀ x y,l[j]? = some x->l[i]? = some y->ind x y (fp j) (fp i) = true
theorem xD.bring {C:Nat->List D->Option D} {l:List aO} {fp:Nat->Fp} {i:Nat} {B:List Nat}:∀ {A:List Nat} {s s' : Fn},xD C l fp (A ++ i :: B) s s'->(∀ j ∈ A,Ind l fp j i)->xD C l fp (i :: (A ++ B)) s s'
 | [],s,s',h,_=>h
 | j :: A,s,s',⟨o,s1,ho,hs,hr⟩,hi=>by
  obtain ⟨oi,s2,ho2,hs2,hr2⟩:=xD.bring hr fun k hk=>hi k (by simp [hk])
  obtain ⟨s1',g1,g2⟩:=swap hs hs2 (hi j (by simp) o oi ho ho2)
  exact ⟨oi,s1',ho2,g1,o,s2,ho,g2,hr2⟩
end Vm
end Go.Proofs.Ytgjcnbgfaimepaa
namespace Go.Proofs.Ytgjcnbgfaimepaa
namespace Vm
open Go.RowKit
def jI (C:Nat->List D->Option D) (o:aO) (s:St):Option (St × Fp) :=
 match o.wants s.get with
 | .run=>match cJ C o.site (bL s.get) s.blk o.op with
  | some (v,wr)=>some (s.put o.dst v wr,yB o s.get s.blk wr)
  | none=>none
 | .skip=>some (s.put o.dst (.tup []) [],([],[]))
 | .bad=>none
def jD (C:Nat->List D->Option D):List aO->St->Option (St × List Fp)
 | [],s=>some (s,[])
 | o :: r,s=>match jI C o s with
  | some (s',p)=>match jD C r s' with
   | some (s'',ps)=>some (s'',p :: ps)
   | none=>none
  | none=>none
def MG (ops:List aO) (ps:List Fp) (pairs:List (Nat × Nat)):Bool:=pairs.all fun (i,j)=>match ops[i]?,ops[j]?,ps[i]?,ps[j]? with
 | some x,some y,some p,some q=>ind x y p q
 | _,_,_,_=>false
def fT (C:Nat->List D->Option D) (ops:List aO) (draw:Option (List (Nat × Nat))) (s:St):Option St:=match draw with
 | none=>iP C ops s
 | some pairs=>match jD C ops s with
  | some (s',ps)=>if MG ops ps pairs then some s' else none
  | none=>none
theorem UJ {α:Type}:∀ (l m:List (Nat × α)) (d:α) (t:Nat),lk (l ++ m) d t = lk l (lk m d t) t
 | [],m,d,t=>rfl
 | (k,v) :: l,m,d,t=>by simp only [List.cons_append,lk]; rw [UJ l m d t]
def St.fn (s:St):Fn:=(s.get,s.blk)
theorem aKd (s:St) (dst:Option Nat) (v:V) (wr:List (Nat × Option aI)):(s.put dst v wr).fn = (eN s.get dst v,bP s.blk wr):=by
 unfold St.fn
 congr 1
 ·funext t
  cases dst with
  | none=>simp [St.get,St.put,eN]
  | some d =>
   simp only [St.get,St.put,eN,lk,Option.some.injEq]
   by_cases e:t = d
   ·rw [if_pos e,if_pos e.symm]
   ·rw [if_neg e,if_neg fun h=>e h.symm]
 ·funext i
  simp only [St.blk,St.put,bP,UJ]
theorem Y7 {C:Nat->List D->Option D} {o:aO} {s s' : St} {p:Fp} (e:jI C o s = some (s',p)):GD C o s.fn = some (s'.fn,p):=by
 unfold jI at e
 unfold GD
 have e1:s.fn.1 = s.get:=rfl
 have e2:s.fn.2 = s.blk:=rfl
 rw [e1,e2]
 cases hw:o.wants s.get with
 | bad=>rw [hw] at e; cases e
 | skip =>
  rw [hw] at e
  cases e
  rw [aKd]
  rfl
 | run =>
  rw [hw] at e
  simp only at e ⊢
  cases ha:cJ C o.site (bL s.get) s.blk o.op with
  | none=>rw [ha] at e; cases e
  | some r =>
   obtain ⟨v,wr⟩:=r
   rw [ha] at e
   cases e
   simp only
   rw [aKd]
theorem aOd {C:Nat->List D->Option D} {o:aO} {s s' : St} (e:yP C o s = some s'):∃ p,jI C o s = some (s',p):=by
 unfold yP at e
 unfold jI
 cases hw:o.wants s.get with
 | bad=>rw [hw] at e; cases e
 | skip=>rw [hw] at e; cases e; exact ⟨_,rfl⟩
 | run =>
  rw [hw] at e
  simp only at e ⊢
  cases ha:cJ C o.site (bL s.get) s.blk o.op with
  | none=>rw [ha] at e; cases e
  | some r =>
   obtain ⟨v,wr⟩:=r
   rw [ha] at e
   cases e
   exact ⟨_,rfl⟩
theorem HT {C:Nat->List D->Option D}:∀ {l:List aO} {s s' : St},iP C l s = some s'->∃ ps,jD C l s = some (s',ps)
 | [],s,s',e=>by simp only [iP,Option.some.injEq] at e; subst e; exact ⟨[],rfl⟩
 | o :: l,s,s',e=>by
  simp only [iP] at e
  split at e
  ·rename_i s1 h1
   obtain ⟨p,hp⟩:=aOd h1
   obtain ⟨ps,hps⟩:=HT e
   exact ⟨p :: ps,by simp only [jD,hp,hps]⟩
  ·cases e
theorem HD {C:Nat->List D->Option D}:∀ {l:List aO} {s s' : St} {ps:List Fp},jD C l s = some (s',ps)->ps.length = l.length
 | [],s,s',ps,e=>by simp only [jD,Option.some.injEq,Prod.mk.injEq] at e; rw [← e.2]; rfl
 | o :: l,s,s',ps,e=>by
  simp only [jD] at e
  split at e
  ·split at e
   ·rename_i h2
    cases e
    simp [HD h2]
   ·cases e
  ·cases e
theorem nT {C:Nat->List D->Option D} (L:List aO) (fp:Nat->Fp):∀ {l:List aO} {k:Nat} {s s' : St} {ps:List Fp},(∀ i,l[i]? = L[k + i]?)->(∀ i,i < l.length->fp (k + i) = ps.getD i ([],[]))->jD C l s = some (s',ps)->xD C L fp ((List.range l.length).map (k + ·)) s.fn s'.fn
 | [],k,s,s',ps,_,_,e=>by simp only [jD,Option.some.injEq,Prod.mk.injEq] at e; rw [← e.1]; rfl
 | o :: l,k,s,s',ps,hl,hf,e=>by
  simp only [jD] at e
  split at e
  ·rename_i s1 p h1
   split at e
   ·rename_i s2 ps' h2
    cases e
    rw [List.length_cons,List.range_succ_eq_map,List.map_cons,List.map_map]
    refine ⟨o,s1.fn,by have:=hl 0; simpa using this.symm,?_,?_⟩
    ·have:=hf 0 (by simp)
     simp only [List.getD_cons_zero,Nat.add_zero] at this ⊢
     rw [this]
     exact Y7 h1
    ·have:=nT L fp (k:=k + 1) (fun i=>by have:=hl (i + 1); simpa [Nat.add_assoc,Nat.add_comm 1 i] using this) (fun i hi=>by
      have:=hf (i + 1) (by simp; omega)
      rw [show k + 1 + i = k + (i + 1) by omega]
      simpa using this) h2
     have e2:((k + ·) ∘ Nat.succ) = (k + 1 + ·):=by funext i; simp; omega
     rw [e2]
     exact this
   ·cases e
  ·cases e
section
variable {P:Program} {nt:Nat} {w0:b7} {w:World} {h0 h:Hp} {fr:Nat->V} {bl:Nat->Option aI} {a:Act} {hd:Nat->Value} {C:Nat->List D->Option D}
theorem aGq {v:V} {b:Bool} (e:yL v b = .run):v = .d (.bool b):=by
 cases v with
 | d x=>cases x with
  | bool c=>cases c <;> cases b <;> simp [yL] at e <;> rfl
  | _=>simp [yL] at e
 | tup vs=>cases vs <;> simp [yL] at e
 | _=>simp [yL] at e
theorem aBL {v:V} {b:Bool} (e:yL v b = .skip):(∃ c,v = .d (.bool c) ∧ c ≠ b) ∨ v = .tup []:=by
 cases v with
 | d x=>cases x with
  | bool c=>exact .inl ⟨c,rfl,by rintro rfl; cases c <;> simp [yL] at e⟩
  | _=>simp [yL] at e
 | tup vs=>cases vs with
  | nil=>exact .inr rfl
  | cons x l=>simp [yL] at e
 | _=>simp [yL] at e
theorem aF4 {h:Hp} {hd:Nat->Value} {bl:Nat->Option aI}:R3 h hd bl undef (.tup []):=⟨#[],rfl,rfl,fun j x hx=>by simp at hx⟩
theorem aAa (r:Rl nt w0 h0 fr bl a w h hd) {ops:Array Oper} {o:Oper} {so:aO} (hlow:nC P nt ops o = some so) (hF:∀ d,o.dst = some d->w0.F d = none) :
  so.op = xJ P o ∧ so.dst = o.dst ∧ EB nt w0 o.dst ∧ (so.wants fr = .run->Region.wanted o (yielded ops a.tmps) = true) ∧ (so.wants fr = .skip->Region.wanted o (yielded ops a.tmps) = false):=by
 unfold nC at hlow
 ·split at hlow
  ·rename_i hd
   have hdst:EB nt w0 o.dst:=fun d e=>⟨by rw [e] at hd; simpa [aQF] using hd,hF d e⟩
   split at hlow
   ·rename_i hg
    cases hlow
    exact ⟨rfl,rfl,hdst,fun _=>by simp [Region.wanted,hg],fun h=>by simp [aO.wants] at h⟩
   ·rename_i j b hg
    split at hlow
    ·rename_i t ht
     cases hlow
     have hy:∀ c,fr t = .d (.bool c)->yielded ops a.tmps j = some c:=by
      intro c hc
      have:=r.frame t
      rw [hc] at this
      have hv:=jR this
      have:a.tmps[t]? = some (.bool c):=by
       simp only [Array.getD_eq_getD_getElem?] at hv
       cases hq:a.tmps[t]? with
       | none=>rw [hq] at hv; cases hv
       | some u=>rw [hq] at hv; simpa using hv
      simp [yielded,ht,this]
     refine ⟨rfl,rfl,hdst,fun hw=>?_,fun hw=>?_⟩
     ·simp only [aO.wants] at hw
      simp [Region.wanted,hg,hy _ (aGq hw)]
     ·simp only [aO.wants] at hw
      rcases aBL hw with ⟨c,hc,hne⟩ | hu
      ·simp [Region.wanted,hg,hy _ hc,hne]
      ·have h3:=r.frame t
       rw [hu] at h3
       obtain ⟨arr,e1,e2,_⟩:=h3
       have e3:arr = #[]:=by simpa using e2
       have hn:yielded ops a.tmps j = none:=by
        simp only [yielded,ht,Option.bind_some]
        cases hq:a.tmps[t]? with
        | none=>rfl
        | some u =>
         have:u = .tuple #[]:=by
          simp only [Array.getD_eq_getD_getElem?,hq,Option.getD_some] at e1
          rw [e1,e3]
         subst this
         rfl
       simp [Region.wanted,hg,hn]
    ·cases hlow
  ·cases hlow
def TA (w0:b7) (ops:Array Oper):Prop:=∀ o ∈ ops.toList,∀ d,o.dst = some d->w0.F d = none
theorem aAX (so:aO) (fr:Nat->V):so.bare.wants fr = so.wants fr:=rfl
theorem VS (hC:qK P C) (r:Rl nt w0 h0 fr bl a w h hd) {ops:Array Oper} {i:Nat} {o:Oper} {so:aO} (hF:TA w0 ops) (ho:ops[i]? = some o) (hlow:nC P nt ops o = some so.bare) {s' : Fn} {p:Fp} (hs:GD C so (fr,bl) = some (s',p))
  {K:Act->World->Prop} {Q:Exit->Act->World->Prop} (hK:∀ a' w' h' hd',Rl nt w0 h0 s'.1 s'.2 a' w' h' hd'->K a' w'):wpOp P ops Q i K a w:=by
 obtain ⟨g1,g2,g3,g4,g5⟩:=aAa r hlow (hF o (by have:=Array.mem_of_getElem? ho; simpa using this))
 rw [aAX] at g4 g5
 replace g2:so.dst = o.dst:=g2
 unfold wpOp
 rw [ho]
 simp only
 simp only [GD] at hs
 cases hw:so.wants fr with
 | bad=>rw [hw] at hs; cases hs
 | skip =>
  rw [hw] at hs
  rw [if_neg (by rw [g5 hw]; simp)]
  cases hs
  refine hK _ _ h hd ?_
  rw [g2]
  exact r.put0 o.dst undef (.tup []) g3 aF4
 | run =>
  rw [hw] at hs
  rw [if_pos (g4 hw)]
  refine .inl ?_
  simp only at hs
  cases ha:cJ C so.site (bL fr) bl so.op with
  | none=>rw [ha] at hs; cases hs
  | some q =>
   obtain ⟨v,wr⟩:=q
   rw [ha] at hs
   cases hs
   have key:∀ a' w' h' hd',Rl nt w0 h0 (eN fr o.dst v) (bP bl wr) a' w' h' hd'->K a' w':=fun a' w' h' hd' hr=>hK a' w' h' hd' (by rw [g2]; exact hr)
   replace g1:so.op.bare = xJ P o:=g1
   cases hop:so.op with
   | lend f args t=>rw [hop] at ha g1; exact aON hC r o g1.symm g3 ha key
   | calln f args=>rw [hop] at ha g1; exact aLM hC r o g1.symm g3 ha key
   | cut size x lo hi=>rw [hop] at ha g1; exact aRt r o g1.symm g3 ha key
   | mkfnv f caps=>rw [hop] at ha g1; exact aKx (C:=C) r o g1.symm g3 ha key
   | _ =>
    have hb:so.op.bare = so.op:=by rw [hop]; rfl
    rw [hb] at g1
    rw [g1] at ha
    exact aTm hC r o g3 ha key
theorem SU (hC:qK P C) {ops:Array Oper} {l:List aO} (hF:TA w0 ops) (hlow:aK (nC P nt ops) ops.toList = some (l.map aO.bare)) (fp:Nat->Fp) {Q:Exit->Act->World->Prop} {s' : Fn} (hQ:∀ a' w' h' hd',Rl nt w0 h0 s'.1 s'.2 a' w' h' hd'->Q .normal a' w') :
  ∀ (L:List Nat) (s:Fn) (a:Act) (w:World) (h:Hp) (hd:Nat->Value),Rl nt w0 h0 s.1 s.2 a w h hd->xD C l fp L s s'->wpOps P ops Q L a w
 | [],s,a,w,h,hd,r,hs=>by simp only [xD] at hs; subst hs; exact hQ _ _ _ _ r
 | i :: L,s,a,w,h,hd,r,hs=>by
  obtain ⟨so,s1,ho,hst,hr⟩:=hs
  obtain ⟨o,q1,q2⟩:=bY hlow (show (l.map aO.bare)[i]? = some so.bare by simp [ho])
  rw [wpOps_cons]
  exact VS hC r hF (by simpa using q1) q2 hst fun a' w' h' hd' r'=>SU hC hF hlow fp hQ L s1 a' w' h' hd' r' hr
theorem NS (hC:qK P C) {ops:Array Oper} {l ext:List aO} (hF:TA w0 ops) (hlow:aK (nC P nt ops) ops.toList = some (l.map aO.bare ++ ext)) (fp:Nat->Fp) {Q:Exit->Act->World->Prop} {s' : Fn} {rest:List Nat} (hQ:∀ a' w' h' hd',Rl nt w0 h0 s'.1 s'.2 a' w' h' hd'->wpOps P ops Q rest a' w') :
  ∀ (L:List Nat) (s:Fn) (a:Act) (w:World) (h:Hp) (hd:Nat->Value),Rl nt w0 h0 s.1 s.2 a w h hd->xD C l fp L s s'->wpOps P ops Q (L ++ rest) a w
 | [],s,a,w,h,hd,r,hs=>by simp only [xD] at hs; subst hs; exact hQ _ _ _ _ r
 | i :: L,s,a,w,h,hd,r,hs=>by
  obtain ⟨so,s1,ho,hst,hr⟩:=hs
  have hi:i < (l.map aO.bare).length:=by rw [List.length_map]; exact (List.getElem?_eq_some_iff.1 ho).1
  obtain ⟨o,q1,q2⟩:=bY hlow (show (l.map aO.bare ++ ext)[i]? = some so.bare by rw [List.getElem?_append_left hi]; simp [ho])
  rw [List.cons_append,wpOps_cons]
  exact VS hC r hF (by simpa using q1) q2 hst fun a' w' h' hd' r'=>NS hC hF hlow fp hQ L s1 a' w' h' hd' r' hr
theorem OG (acc:List Nat):∀ (l:List Oper),∃ r,l.foldl (fun acc o=>acc ++ [(o.after.toList.filter (Region.binds .any)).foldl (fun s e=>s ||| 2 ^ e.on ||| acc.getD e.on 0) 0]) acc = acc ++ r ∧ r.length = l.length
 | []=>⟨[],by simp⟩
 | o :: l=>by
  obtain ⟨r,h1,h2⟩:=OG (acc ++ [(o.after.toList.filter (Region.binds .any)).foldl (fun s e=>s ||| 2 ^ e.on ||| acc.getD e.on 0) 0]) l
  exact ⟨_ :: r,by simp only [List.foldl_cons]; rw [h1,List.append_assoc]; rfl,by simp [h2]⟩
theorem UV (acc:List Nat) (j:Nat):∀ (l:List Edge) (s:Nat),(l.foldl (fun s e=>s ||| 2 ^ e.on ||| acc.getD e.on 0) s).testBit j = true->s.testBit j = true ∨ ∃ e ∈ l,j = e.on ∨ (acc.getD e.on 0).testBit j = true
 | [],s,h=>.inl h
 | e :: l,s,h=>by
  simp only [List.foldl_cons] at h
  rcases UV acc j l _ h with q | ⟨e',h1,h2⟩
  ·rw [Nat.testBit_or,Nat.testBit_or,Bool.or_eq_true,Bool.or_eq_true] at q
   rcases q with (q | q) | q
   ·exact .inl q
   ·rw [Nat.testBit_two_pow] at q
    exact .inr ⟨e,by simp,.inl (of_decide_eq_true q).symm⟩
   ·exact .inr ⟨e,by simp,.inr q⟩
  ·exact .inr ⟨e',by simp [h1],h2⟩
theorem aIj (l:List Oper) (hok:L1 l = true) {i:Nat} {o:Oper} (ho:l[i]? = some o):∀ j,((aAp l).getD i 0).testBit j = true->∃ e ∈ o.after,Region.binds .any e = true ∧ (j = e.on ∨ ((aAp l).getD e.on 0).testBit j = true):=by
 have hi:i < l.length:=(List.getElem?_eq_some_iff.1 ho).1
 have hsplit:l = l.take i ++ o :: l.drop (i + 1):=by
  have:l[i] = o:=(List.getElem?_eq_some_iff.1 ho).2
  rw [← this]; simp
 obtain ⟨r1,g1,g2⟩:=OG [] (l.take i)
 simp only [List.nil_append] at g1
 have hlen:r1.length = i:=by rw [g2,List.length_take]; omega
 obtain ⟨r2,g3,g4⟩:=OG (r1 ++ [(o.after.toList.filter (Region.binds .any)).foldl (fun s e=>s ||| 2 ^ e.on ||| r1.getD e.on 0) 0]) (l.drop (i + 1))
 have hanc:aAp l = r1 ++ [(o.after.toList.filter (Region.binds .any)).foldl (fun s e=>s ||| 2 ^ e.on ||| r1.getD e.on 0) 0] ++ r2:=by
  unfold aAp
  rw [← g3]
  conv=>lhs; rw [hsplit]
  rw [List.foldl_append,List.foldl_cons,g1]
 have hat:(aAp l).getD i 0 = (o.after.toList.filter (Region.binds .any)).foldl (fun s e=>s ||| 2 ^ e.on ||| r1.getD e.on 0) 0:=by
  rw [hanc,List.append_assoc]
  simp [List.getD,hlen]
 intro j hj
 rw [hat] at hj
 rcases UV r1 j _ 0 hj with q | ⟨e,he,hje⟩
 ·simp at q
 obtain ⟨he1,he2⟩:=List.mem_filter.1 he
 refine ⟨e,by simpa using he1,he2,?_⟩
 rcases hje with q | q
 ·exact .inl q
 ·refine .inr ?_
  have hlt:e.on < i:=by
   have:=List.all_eq_true.1 hok (o,i) (by
    rw [List.mem_iff_getElem?]; exact ⟨i,by simp [ho]⟩)
   simp only at this
   have h3:=Array.all_eq_true_iff_forall_mem.1 this e (by simpa using he1)
   simpa [he2] using h3
  rw [hanc,List.append_assoc]
  have:r1.getD e.on 0 = (r1 ++ ([(o.after.toList.filter (Region.binds .any)).foldl (fun s e=>s ||| 2 ^ e.on ||| r1.getD e.on 0) 0] ++ r2)).getD e.on 0:=by
   simp only [List.getD_eq_getElem?_getD]
   rw [List.getElem?_append_left (by omega)]
  rw [← this]
  exact q
theorem Z7 (hC:qK P C) {ops:Array Oper} {l:List aO} (hF:TA w0 ops) (hlow:aK (nC P nt ops) ops.toList = some (l.map aO.bare)) (hok:L1 ops.toList = true) (fp:Nat->Fp) (hind:∀ p ∈ RA ops.toList,Ind l fp p.1 p.2)
  {Q:Exit->Act->World->Prop} {s' : Fn} (hQ:∀ a' w' h' hd',Rl nt w0 h0 s'.1 s'.2 a' w' h' hd'->Q .normal a' w') :
  ∀ (fuel:Nat) (M:List Nat) (listed:Array Bool) (s:Fn) (a:Act) (w:World) (h:Hp) (hd:Nat->Value),M.length = fuel->M.Pairwise (· < ·)->listed.size = ops.size->(∀ i,i ∈ M ↔ i < ops.size ∧ listed.getD i true = false) ->
   (∀ k,listed.getD k false = true->∀ j,((aAp ops.toList).getD k 0).testBit j = true->listed.getD j false = true) ->
   Rl nt w0 h0 s.1 s.2 a w h hd->xD C l fp M s s'->wpAny P .any ops Q fuel listed a w:=by
 have hsz:∀ {i:Nat},i < ops.size->∃ o,ops[i]? = some o:=fun {i} hi=>⟨ops[i]'hi,by simp [hi]⟩
 intro fuel
 induction fuel with
 | zero =>
  intro M listed s a w h hd hl hp hs hM hdc r hst
  have:M = []:=List.eq_nil_of_length_eq_zero hl
  subst this
  simp only [xD] at hst
  subst hst
  refine ⟨?_,hQ _ _ _ _ r⟩
  apply List.eq_nil_iff_forall_not_mem.2
  intro i hi
  obtain ⟨h1,o,h2,_⟩:=mem_ready.1 hi
  have:=(hM i).2 ⟨(Array.getElem?_eq_some_iff.1 h2).1,h1⟩
  cases this
 | succ fuel ih =>
  intro M listed s a w h hd hl hp hs hM hdc r hst
  have listed_of:∀ j,j < ops.size->j ∉ M->listed.getD j false = true:=by
   intro j hj hn
   have:listed.getD j true ≠ false:=fun q=>hn ((hM j).2 ⟨hj,q⟩)
   have hjl:j < listed.size:=by omega
   simp only [Array.getD_eq_getD_getElem?] at this ⊢
   simp [hjl] at this ⊢
   exact this
  refine ⟨fun hnil=>?_,fun i hi=>?_⟩
  ·-- the least one is ready
   exfalso
   match M,hl with
   | m :: M',_ =>
    have hm:=(hM m).1 (by simp)
    obtain ⟨o,ho⟩:=hsz hm.1
    have:m ∈ Region.ready .any ops listed:=by
     refine mem_ready.2 ⟨hm.2,o,ho,fun e he hb=>?_⟩
     have hlt:e.on < m:=by
      have h4:=List.all_eq_true.1 hok (o,m) (by
       rw [List.mem_iff_getElem?]; exact ⟨m,by simp [ho]⟩)
      have h3:=Array.all_eq_true_iff_forall_mem.1 h4 e he
      simpa [hb] using h3
     refine listed_of e.on (by omega) fun hmem=>?_
     rcases List.mem_cons.1 hmem with q | q
     ·omega
     ·have:=(List.pairwise_cons.1 hp).1 _ q; omega
    rw [hnil] at this
    cases this
  ·obtain ⟨hun,o,ho,hall⟩:=mem_ready.1 hi
   have hin:i < ops.size:=(Array.getElem?_eq_some_iff.1 ho).1
   have hiM:i ∈ M:=(hM i).2 ⟨hin,hun⟩
   obtain ⟨A,B,rfl⟩:=List.append_of_mem hiM
   have hanc:∀ j,((aAp ops.toList).getD i 0).testBit j = true->listed.getD j false = true:=by
    intro j hj
    obtain ⟨e,he,hb,hje⟩:=aIj ops.toList hok (i:=i) (o:=o) (by simpa using ho) j hj
    have h5:=hall e he hb
    rcases hje with rfl | hje
    ·exact h5
    ·exact hdc _ h5 j hje
   have hpw:=List.pairwise_append.1 hp
   have hbr:=xD.bring hst (fun j hj=>by
    have hji:j < i:=hpw.2.2 j hj i (by simp)
    have hjun:listed.getD j true = false:=((hM j).1 (by simp [hj])).2
    refine hind (j,i) ?_
    simp only [RA]
    refine List.mem_flatMap.2 ⟨i,by simpa using hin,List.mem_map.2 ⟨j,List.mem_filter.2 ⟨by simpa using hji,?_⟩,rfl⟩⟩
    rw [Bool.not_eq_true',← Bool.not_eq_true]
    intro hmem
    have:=hanc j hmem
    have hjl:j < listed.size:=by omega
    simp only [Array.getD_eq_getD_getElem?] at hjun this
    simp [hjl] at hjun this
    rw [hjun] at this
    cases this)
   obtain ⟨so,s1,hso,hstep,hrest⟩:=hbr
   obtain ⟨o',q1,q2⟩:=bY hlow (show (l.map aO.bare)[i]? = some so.bare by simp [hso])
   have:o' = o:=by
    have:ops[i]? = some o':=by simpa using q1
    rw [ho] at this
    exact (Option.some.inj this).symm
   subst this
   refine VS hC r hF ho q2 hstep fun a' w' h' hd' r'=>ih (A ++ B) (listed.setIfInBounds i true) s1 a' w' h' hd' (by simp at hl ⊢; omega) ?_ (by simpa using hs) ?_ ?_ r' hrest
   ·refine List.pairwise_append.2 ⟨hpw.1,(List.pairwise_cons.1 hpw.2.1).2,fun x hx y hy=>hpw.2.2 x hx y (by simp [hy])⟩
   ·intro k
    have hnd:k ∈ A ++ B ↔ k ∈ A ++ i :: B ∧ k ≠ i:=by
     have hA:i ∉ A:=fun q=>absurd (hpw.2.2 i q i (by simp)) (by omega)
     have hB:i ∉ B:=fun q=>absurd ((List.pairwise_cons.1 hpw.2.1).1 i q) (by omega)
     simp only [List.mem_append,List.mem_cons]
     constructor
     ·rintro (q | q)
      ·exact ⟨.inl q,fun e=>hA (e ▸ q)⟩
      ·exact ⟨.inr (.inr q),fun e=>hB (e ▸ q)⟩
     ·rintro ⟨q | q | q,hne⟩
      ·exact .inl q
      ·exact absurd q hne
      ·exact .inr q
    rw [hnd,hM k]
    constructor
    ·rintro ⟨⟨g1,g2⟩,g3⟩; exact ⟨g1,by rw [getD_set_ne true (Ne.symm g3)]; exact g2⟩
    ·rintro ⟨g1,g2⟩
     have g3:k ≠ i:=by
      rintro rfl
      have hkl:k < listed.size:=by omega
      simp [hkl] at g2
     exact ⟨⟨g1,by rw [getD_set_ne true (Ne.symm g3)] at g2; exact g2⟩,g3⟩
   ·intro k hk j hj
    by_cases hki:k = i
    ·subst hki; exact getD_set_true (hanc j hj)
    ·rw [getD_set_ne false (Ne.symm hki)] at hk
     exact getD_set_true (hdc k hk j hj)
theorem T3 (hC:qK P C) (hm:P.follows .mixedOrders = true) {ops:Array Oper} {l:List aO} (hF:TA w0 ops) (hlow:aK (nC P nt ops) ops.toList = some (l.map aO.bare)) {id:Nat} {draw:Bool} {sd:Option (List (Nat × Nat))} (hd:if draw then L1 ops.toList = true ∧ sd = some (RA ops.toList) else sd = none)
  {s s' : St} (hr:fT C l sd s = some s') {hd' : Nat->Value} (r:Rl nt w0 h0 s.get s.blk a w h hd') {Q:Exit->Act->World->Prop} (hQ:∀ a' w' h' hd',Rl nt w0 h0 s'.get s'.blk a' w' h' hd'->Q .normal a' w'):(Code.region id ops draw).wp P Q a w:=by
 have hlen:ops.size = l.length:=by simpa using (bJ hlow).1
 cases draw with
 | false =>
  simp only [Bool.false_eq_true,if_false] at hd
  subst hd
  simp only [fT] at hr
  obtain ⟨ps,hps⟩:=HT hr
  have hst:=nT l (fun i=>ps.getD i ([],[])) (k:=0) (fun i=>by simp) (fun i _=>by simp) hps
  refine wp_region ?_
  have e:(List.range l.length).map (0 + ·) = List.range ops.size:=by rw [hlen]; simp
  rw [e] at hst
  exact SU hC hF hlow _ (s':=s'.fn) hQ _ s.fn a w h hd' r hst
 | true =>
  simp only [if_true] at hd
  obtain ⟨hok,rfl⟩:=hd
  simp only [fT] at hr
  split at hr
  ·rename_i s2 ps hps
   split at hr
   ·rename_i hap
    cases hr
    have hst:=nT l (fun i=>ps.getD i ([],[])) (k:=0) (fun i=>by simp) (fun i _=>by simp) hps
    have e:(List.range l.length).map (0 + ·) = List.range ops.size:=by rw [hlen]; simp
    rw [e] at hst
    have hind:∀ p ∈ RA ops.toList,Ind l (fun i=>ps.getD i ([],[])) p.1 p.2:=by
     intro p hp x y hx hy
     have:=List.all_eq_true.1 hap p hp
     obtain ⟨i,j⟩:=p
     simp only at hx hy this ⊢
     rw [hx,hy] at this
     have hpl:=HD hps
     have hi:=(List.getElem?_eq_some_iff.1 hx).1
     have hj:=(List.getElem?_eq_some_iff.1 hy).1
     have hi' : i < ps.length:=by omega
     have hj' : j < ps.length:=by omega
     have e1:ps[i]? = some (ps.getD i ([],[])):=by simp [List.getD,hi']
     have e2:ps[j]? = some (ps.getD j ([],[])):=by simp [List.getD,hj']
     rw [e1,e2] at this
     exact this
    refine wp_region_any hm ?_
    refine Z7 hC hF hlow hok _ hind (s':=s'.fn) hQ ops.size (List.range ops.size) _ s.fn a _ h hd' (by simp) List.pairwise_lt_range (by simp) ?_ ?_ r.drew hst
    ·intro i
     simp only [List.mem_range]
     constructor
     ·intro hi; exact ⟨hi,by simp [hi]⟩
     ·exact fun hi=>hi.1
    ·intro k hk
     exfalso
     simp only [Array.getD_eq_getD_getElem?,Array.getElem?_replicate] at hk
     split at hk <;> simp at hk
   ·cases hr
  ·cases hr
end
end Vm
end Go.Proofs.Ytgjcnbgfaimepaa
