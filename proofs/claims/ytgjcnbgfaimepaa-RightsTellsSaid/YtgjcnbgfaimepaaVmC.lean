/- Each operation of the small machine is the model's: all of them. Regions: one operation behind the other, in whichever order the model draws. Regions: in whichever order the model draws, the same comes out. Regions are run. -/
import Derived.Test.YtgjcnbgfaimepaaVmB
namespace Go.Proofs.Ytgjcnbgfaimepaa
section
namespace Vm
open Go.RowKit
def aP0 (P:Program) (f:Nat):Prop:=∃ fn:Func,P.funcs[f]? = some fn ∧ fn.name ≠ "runtime.NumGoroutine" ∧ fn.body.isSome = true
def W2 (site:Nat) (es:List (Nat × Nat)) (rs:List (List (List D))):Nat->Option aL:=cC (fun _=>none) (i9 site 0 es rs)
def DZ (base:c8) (w:World) (h:Hp) (v:Value):D->Prop
 | .own x es rs=>∀ site,∃ hd0:Nat->Value,R3 h hd0 (W2 site es rs) v (thaw site x) ∧
   (∀ id b,W2 site es rs id = some b->BR base w h hd0 (W2 site es rs) id b) ∧
   (∀ i j bi bj g,W2 site es rs i = some bi->W2 site es rs j = some bj->jH (hd0 i) = some g->jH (hd0 j) = some g->i = j)
 | x=>aW h v x
theorem aHv {base:c8} {w:World} {h:Hp} {v:Value} {x:D} (hx:∀ y es rs,x ≠ .own y es rs):DZ base w h v x ↔ aW h v x:=by
 cases x <;> first | exact Iff.rfl | exact absurd rfl (hx _ _ _)
theorem MN {site:Nat} {bl:Nat->Option aL} {fz:List (Nat × Option aL)} {x:D} (hx:∀ y es rs,x ≠ .own y es rs):uJ site bl fz x = some (toV x,if PF x then [] else fz):=by
 cases x <;> first | rfl | exact absurd rfl (hx _ _ _)
theorem L1 (site:Nat):∀ (es:List (Nat × Nat)) (rs:List (List (List D))) (n:Nat),∀ p ∈ i9 site n es rs,∃ b:aL,p.2 = some b ∧ b.live = true
 | [],rs,n,p,hp=>by simp [i9] at hp
 | (e,size) :: es,[],n,p,hp=>by simp [i9] at hp
 | (e,size) :: es,rows :: rs,n,p,hp=>by
  simp only [i9,Ô] at hp
  rcases hp with rfl | hp
  ·exact ⟨_,rfl,by unfold E6; split <;> rfl⟩
  ·exact L1 site es rs (n + 1) p hp
theorem YP {bl:Nat->Option aL}:∀ {l:List (Nat × Option aL)},UM bl l = true->∀ p ∈ l,bl p.1 = none
 | [],_,p,hp=>by simp at hp
 | (i,b) :: l,h,p,hp=>by
  simp only [UM] at h
  split at h
  ·rename_i hi
   rcases Ô.1 hp with rfl | hp
   ·exact hi
   ·exact YP h p hp
  ·cases h
theorem aJn {bl:Nat->Option aL} {l:List (Nat × Option aL)} (hf:∀ p ∈ l,bl p.1 = none) (id:Nat) :
  (∃ p ∈ l,p.1 = id ∧ cC bl l id = p.2 ∧ cC (fun _=>none) l id = p.2) ∨ (cC bl l id = bl id ∧ cC (fun _=>none) l id = none):=by
 unfold cC
 have key:∀ (l:List (Nat × Option aL)),(∃ p ∈ l,p.1 = id ∧ lk l (bl id) id = p.2 ∧ lk l none id = p.2) ∨ (lk l (bl id) id = bl id ∧ lk l none id = none):=by
  intro l
  induction l with
  | nil=>exact .inr ⟨rfl,rfl⟩
  | cons q l ih =>
   obtain ⟨i,b⟩:=q
   by_cases e:id = i
   ·refine .inl ⟨(i,b),à ..,e.symm,?_,?_⟩ <;> simp [lk,e]
   ·simp only [lk,Ã e]
    rcases ih with ⟨p,h1,h2⟩ | h
    ·exact .inl ⟨p,Õ _ h1,h2⟩
    ·exact .inr h
 exact key l
theorem BR.base {b0 b1:c8} (hle:∀ g,b1.own g->b0.own g) {w:World} {h:Hp} {hd:Nat->Value} {bl:Nat->Option aL} {id:Nat} {b:aL} (hO:b.live = true ∨ b0.O id = b1.O id) (r:BR b1 w h hd bl id b):BR b0 w h hd bl id b:=by
 cases b with
 | box cs =>
  obtain ⟨g,arr,e,h1,h2,h3⟩:=r
  exact ⟨g,arr,e,h1,hle g h2,h3⟩
 | rows ver e size rows =>
  obtain ⟨h1,h2,h3,h4⟩:=r
  exact ⟨h1,h2,h3,fun g hg=>⟨(h4 g hg).1,hle g (h4 g hg).2⟩⟩
 | froz ver rows=>exact r
 | fbox cs=>exact r
 | mp ek m =>
  obtain ⟨g,h1,h2,h3⟩:=r
  exact ⟨g,h1,hle g h2,h3⟩
 | fmp ek m=>exact r
 | outer cs =>
  rcases hO with q | q
  ·cases q
  ·intro j x hx
   rw [q]
   exact r j x hx
def HV (P:Program) (f:Nat) (ds:List D) (x:D):Prop:=aP0 P f ∧ ∀ (w:World) (h:Hp) (vs:Array Value),h.le (hw w)->vs.size = ds.length->(∀ (i:Nat) (d:D),ds[i]? = some d->aW h (vs.getD i undef) d) ->
 Calls P f vs w fun e w'=>∃ v h',e = .returned v ∧ DZ (c8.of w) w' h' v x ∧ h.le h' ∧ h'.le (hw w') ∧ (∀ b,b < w.heap.size->h' b = h b) ∧ Below w.heap.size w w'
def ZA:D->Option (Nat × Nat × List (List D))
 | .own (.ref 0) [(e,size)] [rows]=>some (e,size,rows)
 | _=>none
def aC6 (w:World) (h:Hp) (v:Value) (e size:Nat) (rows:List (List D)):Prop :=
 0 < size ∧ rows.length <= maxLen ∧ (∃ xs,lZ w e size v rows.length xs ∧ lC h size rows xs) ∧ ∀ g,jH v = some g->h g = none
def mO:Nat->List D->Option Nat
 | _,[]=>none
 | t,d :: ds=>match ZA d with
  | some _=>some t
  | none=>mO (t + 1) ds
def c8.lent (w:World) (t:Nat) (v:Value):c8:={ w with L:=fun g=>jH v = some g,F:=fun i=>if i = t then some v else none,O:=fun _ _=>undef,M:=[] }
def aCa (P:Program) (f:Nat) (ds:List D) (t:Nat) (x:D):Prop:=aP0 P f ∧ ∀ (e size:Nat) (rows rows' : List (List D)) (y:D),ds[t]? = some (.own (.ref 0) [(e,size)] [rows])->x = .own y [(e,size)] [rows'] ->
 ∀ (w:World) (h:Hp) (vs:Array Value),h.le (hw w)->vs.size = ds.length->(∀ (i:Nat) (d:D),i ≠ t->ds[i]? = some d->aW h (vs.getD i undef) d)->aC6 w h (vs.getD t undef) e size rows ->
 Calls P f vs w fun en w'=>∃ v h',en = .returned v ∧ aW h' v y ∧ aC6 w' h' (vs.getD t undef) e size rows' ∧ h.le h' ∧ h'.le (hw w') ∧ GE (c8.lent w t (vs.getD t undef)) w w'
def vV (P:Program) (C:Nat->List D->Option D):Prop:=∀ f ds x,C f ds = some x->(mO 0 ds = none->HV P f ds x) ∧ ∀ t,mO 0 ds = some t->aCa P f ds t x
theorem H5:∀ (ds:List D) (t:Nat),(∀ d ∈ ds,ZA d = none)->mO t ds = none
 | [],_,_=>rfl
 | d :: ds,t,h=>by
  simp only [mO,h d (à ..)]
  exact H5 ds (t + 1) fun x hx=>h x (Õ _ hx)
theorem V7:∀ (ds:List D) (i t:Nat) (d:D),ds[t]? = some d->(ZA d).isSome = true->(∀ (j:Nat) (x:D),j < t->ds[j]? = some x->ZA x = none)->mO i ds = some (i + t)
 | [],_,_,_,h,_,_=>by simp at h
 | x :: ds,i,0,d,h,hs,_=>by
  simp only [Ē,Å] at h
  subst h
  obtain ⟨y,hy⟩:=ā.1 hs
  simp [mO,hy]
 | x :: ds,i,t + 1,d,h,hs,hn=>by
  simp only [mO,hn 0 x (by omega) rfl]
  rw [V7 ds (i + 1) t d (by simpa using h) hs (fun j y hj hy=>hn (j + 1) y (by omega) (by simpa using hy))]
  congr 1
  omega
theorem ZU {h:Hp} {v:Value} {d:D} (r:aW h v d):ZA d = none:=by
 cases r <;> rfl
section
variable {P:Program} {nt:Nat} {w0:c8} {w w' : World} {h0 h h' : Hp} {fr:Nat->V} {bl:Nat->Option aL} {a:Act} {hd:Nat->Value}
theorem nD {o:Oper} {K:Act->World->Prop} {Q:Exit->Act->World->Prop} {s:Sem Value} {cv:Value} (he:execOp a.eval o = (do pure (.value (← s)))) (hr:s.run P w = .ok cv w') (hk:K (a.put o.dst cv) w'):o.wp P a w K Q:=by
 unfold Oper.wp
 rw [he]
 simp only [þ,hr,ć,ı]
 exact hk
theorem aGJ {o:Oper} {K:Act->World->Prop} {Q:Exit->Act->World->Prop} {s:Sem Unit} (he:execOp a.eval o = (do s; pure .skip)) (hr:s.run P w = .ok () w') (hk:K (a.put o.dst undef) w'):o.wp P a w K Q:=by
 unfold Oper.wp
 rw [he]
 simp only [þ,hr,ć,ı]
 exact hk
theorem Rl.call (r:Rl nt w0 h0 fr bl a w h hd) (dst:Option Nat) (hdst:UQ nt w0 dst) (cv:Value) (v:V) (hl:h.le h') (hle:h'.le (hw w')) (hb:∀ b,b < w.heap.size->h' b = h b) (hbel:Below w.heap.size w w') (hv:R3 h' hd bl cv v) :
  Rl nt w0 h0 (jP fr dst v) bl (a.put dst cv) w' h' hd:=by
 have hbase:=r.below.size
 refine r.put dst cv v hdst hl hle (fun b hb'=>hb b (ę (c8.lt hb') hbase)) (GE.of hbase hbel) (Kp.refl _ _) ?_ r.sep hv
 intro id b hbl
 refine (r.blk id b hbl).keep hl (Kp.refl _ _) rfl fun hlv g hg=>?_
 have:=(r.blk id b hbl).num hlv hg
 exact ⟨hbel.block g this.2.1,fun q=>by rw [hb g this.2.1]; exact q⟩
theorem Rl.drew (r:Rl nt w0 h0 fr bl a w h hd):Rl nt w0 h0 fr bl a { w with drawn:=w.drawn + 1 } h hd where
 tmps:=r.tmps
 defers:=r.defers
 fixed:=r.fixed
 below:=r.below.drew
 hle:=r.hle
 h0le:=r.h0le
 hbase:=r.hbase
 frame:=r.frame
 blk:=fun id b hb=>(r.blk id b hb).keep (Hp.le.refl _) (Kp.refl _ _) rfl fun _ _ _=>⟨rfl,fun q=>q⟩
 sep:=r.sep
theorem aGm (r:Rl nt w0 h0 fr bl a w h hd) {x:Option Operand} {y:Option d7} (e:aLI x = some y) :
  (∀ z,y.map (cZ fr) = some z->∃ u,x.map a.eval = some u ∧ R3 h hd bl u z) ∧ (y.map (cZ fr) = none->x.map a.eval = none):=by
 cases x with
 | none=>simp only [aLI,Å] at e; subst e; exact ⟨fun z hz=>(by cases hz),fun _=>rfl⟩
 | some x =>
  simp only [aLI,Â] at e
  obtain ⟨x',e1,rfl⟩:=e
  refine ⟨fun z hz=>?_,fun hz=>(by cases hz)⟩
  simp only [ä,Å] at hz
  subst hz
  exact ⟨_,rfl,eE r.frame e1⟩
theorem aTx {op:BinOp} {x y:V} {d:D} (e:IL 0 op x y = some d):(∃ k m n,x = .d (.int k m) ∧ y = .d (.int k n) ∧ yL op k m n = some d) ∨ ∃ m n,x = .d (.str m) ∧ y = .d (.str n) ∧ ZB op m n = some d:=by
 unfold IL at e
 split at e
 ·split at e
  ·rename_i hk; subst hk; exact .inl ⟨_,_,_,rfl,rfl,e⟩
  ·cases e
 ·exact .inr ⟨_,_,rfl,rfl,e⟩
 all_goals (first | (cases e; done) | (simp_all; done))
theorem aSq {op:BinOp} {x y:V} {d:D} (e:IL 1 op x y = some d):∃ m n,x = .d (.bool m) ∧ y = .d (.bool n):=by
 unfold IL at e
 split at e <;> first | (simp_all; done) | exact ⟨_,_,rfl,rfl⟩
theorem Rl.thaw (r:Rl nt w0 h0 fr bl a w h hd) (dst:Option Nat) (hdst:UQ nt w0 dst) (cv:Value) (v:V) (hl:h.le h') (hle:h'.le (hw w')) (hb:∀ b,b < w.heap.size->h' b = h b) (hbel:Below w.heap.size w w')
  (l:List (Nat × Option aL)) (hf:∀ p ∈ l,bl p.1 = none) (hlv:∀ p ∈ l,∃ b:aL,p.2 = some b ∧ b.live = true) (hd0:Nat->Value) (hv:R3 h' hd0 (cC (fun _=>none) l) cv v)
  (hB:∀ id b,cC (fun _=>none) l id = some b->BR (c8.of w) w' h' hd0 (cC (fun _=>none) l) id b)
  (hS:∀ i j bi bj g,cC (fun _=>none) l i = some bi->cC (fun _=>none) l j = some bj->jH (hd0 i) = some g->jH (hd0 j) = some g->i = j) :
  ∃ hd',Rl nt w0 h0 (jP fr dst v) (cC bl l) (a.put dst cv) w' h' hd':=by
 have hbase:=r.below.size
 have hcase:=aJn hf
 have hlive:∀ id b,cC (fun _=>none) l id = some b->b.live = true:=fun id b hb=>by
  rcases hcase id with ⟨p,h1,h2,h3,h4⟩ | ⟨h3,h4⟩
  ·obtain ⟨b',h5,h6⟩:=hlv p h1
   rw [h4,h5] at hb; cases hb; exact h6
  ·rw [h4] at hb; cases hb
 let hd' : Nat->Value:=fun id=>if (cC (fun _=>none) l id).isSome = true then hd0 id else hd id
 have hnew:∀ id b,cC (fun _=>none) l id = some b->cC bl l id = some b ∧ hd' id = hd0 id:=fun id b hb=>by
  rcases hcase id with ⟨p,h1,h2,h3,h4⟩ | ⟨h3,h4⟩
  ·exact ⟨by rw [h3,← h4,hb],by simp [hd',hb]⟩
  ·rw [h4] at hb; cases hb
 have hold:∀ id b,bl id = some b->cC bl l id = some b ∧ hd' id = hd id:=fun id b hb=>by
  rcases hcase id with ⟨p,h1,h2,h3,h4⟩ | ⟨h3,h4⟩
  ·have:=hf p h1; rw [h2,hb] at this; cases this
  ·exact ⟨by rw [h3,hb],by simp [hd',h4]⟩
 have hcases:∀ id b,cC bl l id = some b->(cC (fun _=>none) l id = some b ∧ hd' id = hd0 id) ∨ (bl id = some b ∧ hd' id = hd id):=fun id b hb=>by
  rcases hcase id with ⟨p,h1,h2,h3,h4⟩ | ⟨h3,h4⟩
  ·have:cC (fun _=>none) l id = some b:=by rw [h4,← h3,hb]
   exact .inl ⟨this,(hnew id b this).2⟩
  ·rw [h3] at hb; exact .inr ⟨hb,(hold id b hb).2⟩
 have hk:Kp hd hd' bl (cC bl l):=fun id b hb=>by
  obtain ⟨q1,q2⟩:=hold id b hb
  refine ⟨b,q1,?_⟩
  cases b <;> simp [DD,q2]
 have hk0:Kp hd0 hd' (cC (fun _=>none) l) (cC bl l):=fun id b hb=>by
  obtain ⟨q1,q2⟩:=hnew id b hb
  refine ⟨b,q1,?_⟩
  cases b <;> simp [DD,q2]
 refine ⟨hd',r.put dst cv v hdst hl hle (fun b hb'=>hb b (ę (c8.lt hb') hbase)) (GE.of hbase hbel) hk ?_ ?_ (hv.keep (Hp.le.refl _) hk0)⟩
 ·intro id b hid
  rcases hcases id b hid with ⟨q1,q2⟩ | ⟨q1,q2⟩
  ·exact ((hB id b q1).base (fun g hg=>.inl (ñ hbase (c8.own_of hg))) (.inl (hlive id b q1))).keep (Hp.le.refl _) hk0 q2 fun _ g _=>⟨rfl,fun q=>q⟩
  ·refine (r.blk id b q1).keep hl hk q2 fun hlv g hg=>?_
   have:=(r.blk id b q1).num hlv hg
   exact ⟨hbel.block g this.2.1,fun q=>by rw [hb g this.2.1]; exact q⟩
 ·intro i j bi bj g hi hj li lj gi gj
  rcases hcases i bi hi with ⟨i1,i2⟩ | ⟨i1,i2⟩ <;> rcases hcases j bj hj with ⟨j1,j2⟩ | ⟨j1,j2⟩
  ·exact hS i j bi bj g i1 j1 (i2 ▸ gi) (j2 ▸ gj)
  ·have h1:=c8.own_of ((hB i bi i1).num (hlive i bi i1) (i2 ▸ gi)).1
   have h2:=((r.blk j bj j1).num lj (j2 ▸ gj)).2.1
   omega
  ·have h1:=c8.own_of ((hB j bj j1).num (hlive j bj j1) (j2 ▸ gj)).1
   have h2:=((r.blk i bi i1).num li (i2 ▸ gi)).2.1
   omega
  ·exact r.sep i j bi bj g i1 j1 li lj (i2 ▸ gi) (j2 ▸ gj)
theorem aLa (bl:Nat->Option aL) (a b:List (Nat × Option aL)):cC bl (a ++ b) = cC (cC bl b) a:=by
 funext id
 unfold cC
 induction a with
 | nil=>rfl
 | cons p a ih =>
  obtain ⟨i,x⟩:=p
  simp only [ą,lk]
  rw [ih]
theorem aAz (r:Rl nt w0 h0 fr bl a w h hd) {f:Nat} {ds:List D} {x:D} (hS:HV P f ds x) {o:Oper} (hdst:UQ nt w0 o.dst) {vs:Array Value} (hexec:(execOp a.eval o).run P w = .ok (.enter f vs) w)
  {wr wr' : List (Nat × Option aL)} {site:Nat} {v' : V} (hcr:uJ site bl wr x = some (v',wr')) (hok:BS bl wr) (hsz:vs.size = ds.length) (hrd:∀ (i:Nat) (d:D),ds[i]? = some d->aW (NO w h hd wr) (vs.getD i undef) d) {K:Act->World->Prop} {Q:Exit->Act->World->Prop}
  (hK:∀ a' w' h' hd',Rl nt w0 h0 (jP fr o.dst v') (cC bl wr') a' w' h' hd'->K a' w'):o.wp P a w K Q:=by
 have hS:=hS.2 w (NO w h hd wr) vs (RQ r _) hsz hrd
 unfold Oper.wp
 rw [hexec]
 simp only [Oper.upon]
 refine hS.mono ?_
 rintro e w' ⟨cv,h',rfl,g1,g2,g3,g4,g5⟩
 simp only
 by_cases hx:∃ y es rs,x = .own y es rs
 ·obtain ⟨y,es,rs,rfl⟩:=hx
  simp only [uJ] at hcr
  split at hcr
  ·rename_i hfree
   cases hcr
   obtain ⟨hd0,q1,q2,q3⟩:=g1 site
   have hf:∀ p ∈ i9 site 0 es rs,cC bl wr p.1 = none:=fun p hp=>aGG hok (YP hfree p hp)
   obtain ⟨hd',r'⟩:=(r.freeze _ hok).thaw o.dst hdst cv _ g2 g3 g4 g5 _ hf (L1 site es rs 0) hd0 q1 q2 q3
   rw [← aLa] at r'
   exact hK _ _ h' hd' r'
  ·cases hcr
 ·have hx:∀ y es rs,x ≠ .own y es rs:=fun y es rs e=>hx ⟨y,es,rs,e⟩
  rw [MN hx] at hcr
  rw [aHv hx] at g1
  cases hcr
  by_cases hfl:PF x = true
  ·rw [Á hfl] at hK
   refine hK _ _ h hd (r.call o.dst hdst cv (toV x) (Hp.le.refl _) ?_ (fun _ _=>rfl) g5 (aFq (F2 g1 hfl h)))
   intro b ob hb
   exact (g5.block b (Ï.1 (r.hle b ob hb)).1).trans (r.hle b ob hb)
  ·rw [Ã hfl] at hK
   exact hK _ _ h' hd ((r.freeze _ hok).call o.dst hdst cv (toV x) g2 g3 g4 g5 (aFq g1))
theorem aJY (r:Rl nt w0 h0 fr bl a w h hd) {op:BinOp} {t:TypeId} {x y:Operand} {so:pF} (hlow:ZL P op t x y = some so) {C:Nat->List D->Option D} {site:Nat} {v:V} {wr:List (Nat × Option aL)} (ha:iB C site (cZ fr) bl so = some (v,wr)) :
  ∃ d,v = .d d ∧ wr = [] ∧ ∃ cv,((do eqGuard op t x y (a.eval x) (a.eval y); binOp op t (a.eval x) (a.eval y)):Sem Value).run P w = .ok cv w ∧ aW h cv d ∧ d.atom = true:=by
 unfold ZL at hlow
 split at hlow
 ·rename_i x' y' h1 h2
  have hx:=eE r.frame h1
  have hy:=eE r.frame h2
  have fin:∀ (d:D),v = .d d->wr = []->(∃ cv,((do eqGuard op t x y (a.eval x) (a.eval y); binOp op t (a.eval x) (a.eval y)):Sem Value).run P w = .ok cv w ∧ aW h cv d ∧ d.atom = true)->∃ d,v = .d d ∧ wr = [] ∧ ∃ cv,((do eqGuard op t x y (a.eval x) (a.eval y); binOp op t (a.eval x) (a.eval y)):Sem Value).run P w = .ok cv w ∧ aW h cv d ∧ d.atom = true:=fun d h1 h2 h3=>⟨d,h1,h2,h3⟩
  have res:∀ (z:Option D),WY.v z = some (v,wr)->∃ d,z = some d ∧ v = .d d ∧ wr = []:=by
   intro z hz
   simp only [WY.v,Â] at hz
   obtain ⟨d,e1,e2⟩:=hz
   cases e2
   exact ⟨d,e1,rfl,rfl⟩
  have zero:∀ (d:D),IL 0 op (cZ fr x') (cZ fr y') = some d->∃ cv,((do eqGuard op t x y (a.eval x) (a.eval y); binOp op t (a.eval x) (a.eval y)):Sem Value).run P w = .ok cv w ∧ aW h cv d ∧ d.atom = true:=by
   intro d e
   generalize cZ fr x' = xx at hx e
   generalize cZ fr y' = yy at hy e
   rcases aTx e with ⟨k,m,n,rfl,rfl,e'⟩ | ⟨m,n,rfl,rfl,e'⟩
   ·rw [yS hx,yS hy]; exact aEF e'
   ·rw [(XH hx).1,(XH hy).1]; exact aFO e'
  split at hlow <;> first | (cases hlow; done) | skip
  ·split at hlow
   ·cases hlow
    simp only [iB] at ha
    obtain ⟨d,e1,e2,e3⟩:=res _ ha
    exact fin d e2 e3 (zero d e1)
   ·cases hlow
  ·split at hlow
   ·cases hlow
    simp only [iB] at ha
    obtain ⟨d,e1,e2,e3⟩:=res _ ha
    exact fin d e2 e3 (zero d e1)
   ·cases hlow
  split at hlow
  ·cases hlow
   simp only [iB] at ha
   obtain ⟨d,e1,e2,e3⟩:=res _ ha
   exact fin d e2 e3 (zero d e1)
  ·cases hlow
   simp only [iB] at ha
   obtain ⟨d,e1,e2,e3⟩:=res _ ha
   exact fin d e2 e3 (zero d e1)
  ·rename_i hu
   cases hlow
   simp only [iB] at ha
   obtain ⟨d,e1,e2,e3⟩:=res _ ha
   refine fin d e2 e3 ?_
   generalize cZ fr x' = xx at hx e1
   generalize cZ fr y' = yy at hy e1
   obtain ⟨m,n,rfl,rfl⟩:=aSq e1
   rw [mZ hx,mZ hy]; exact aCH hu e1
  ·rename_i fs hu
   cases hq:NG P 20 t with
   | none=>simp only [hq] at hlow; (first | (cases hlow; done) | (split at hlow <;> cases hlow))
   | some ks =>
    simp only [hq] at hlow
    cases op <;> dsimp only at hlow <;> first | (cases hlow; done) | skip
    ·split at hlow
     ·rename_i hg
      cases hlow
      simp only [iB] at ha
      obtain ⟨d,e1,e2,e3⟩:=res _ ha
      exact fin d e2 e3 (aGZ (neg:=false) hq hu hg hx hy e1 x y)
     ·cases hlow
    ·split at hlow
     ·rename_i hg
      cases hlow
      simp only [iB] at ha
      obtain ⟨d,e1,e2,e3⟩:=res _ ha
      exact fin d e2 e3 (aGZ (neg:=true) hq hu hg hx hy e1 x y)
     ·cases hlow
  ·cases hlow
 ·cases hlow
theorem aA8 {bl:Nat->Option aL} {t:Nat}:∀ {vs:List V} {i:Nat} {ds:List D},KG bl t i vs = some ds->vs.length = ds.length ∧ ∀ (j:Nat) (v:V),vs[j]? = some v->∃ d,ds[j]? = some d ∧ (if i + j = t then T7 bl v else lG bl v) = some d
 | [],i,ds,h=>by simp [KG] at h; subst h; simp
 | v :: r,i,ds,h=>by
  simp only [KG] at h
  split at h
  ·cases h
  ·rename_i d hd
   split at h
   ·cases h
   ·rename_i ds' hds
    cases h
    obtain ⟨h1,h2⟩:=aA8 hds
    refine ⟨by simp [h1],fun j u hj=>?_⟩
    cases j with
    | zero=>simp only [Ē,Å] at hj; subst hj; exact ⟨d,rfl,hd⟩
    | succ j =>
     obtain ⟨d',q1,q2⟩:=h2 j u (by simpa using hj)
     refine ⟨d',by simpa using q1,?_⟩
     rw [show i + (j + 1) = i + 1 + j by omega]
     exact q2
theorem aAZ {bl:Nat->Option aL} {t:Nat}:∀ (vs:List V) (i:Nat),BS bl (AA bl t i vs)
 | [],i=>by intro p hp; simp [AA] at hp
 | v :: r,i=>by
  have key:BS bl ((if i = t then [] else [v]).flatMap (CI bl) ++ AA bl t (i + 1) r):=by
   intro p hp
   rcases Ê.1 hp with q | q
   ·rcases BS.flatMap (bl:=bl) (if i = t then [] else [v]) (fun z=>z) p q with h | ⟨cs,ds,h1,h2,h3,h4⟩ | h
    ·exact .inl h
    ·exact .inr (.inl ⟨cs,ds,h1,h2,h3,fun x hx=>Ê.2 (.inl (h4 x hx))⟩)
    ·exact .inr (.inr h)
   ·rcases aAZ r (i + 1) p q with h | ⟨cs,ds,h1,h2,h3,h4⟩ | h
    ·exact .inl h
    ·exact .inr (.inl ⟨cs,ds,h1,h2,h3,fun x hx=>Ê.2 (.inr (h4 x hx))⟩)
    ·exact .inr (.inr h)
  simp only [AA]
  by_cases e:i = t
  ·simpa [e] using key
  ·simpa [e] using key
theorem ZG {bl:Nat->Option aL} {t:Nat}:∀ (vs:List V) (i j:Nat) (v:V),vs[j]? = some v->i + j ≠ t->∀ p ∈ CI bl v,p ∈ AA bl t i vs
 | [],i,j,v,h,_,p,hp=>by simp at h
 | u :: r,i,0,v,h,hn,p,hp=>by
  simp only [Ē,Å] at h
  subst h
  simp only [AA,Ã (show ¬ i = t by omega)]
  exact Ê.2 (.inl hp)
 | u :: r,i,j + 1,v,h,hn,p,hp=>by
  simp only [AA]
  exact Ê.2 (.inr (ZG r (i + 1) j v (by simpa using h) (by omega) p hp))
theorem aDk {size:Nat} {rows:List (List D)} {xs:List Value} (r:lC h size rows xs) (hf:uP rows = true) (k:Hp):lC k size rows xs:=fun i row hi =>
 ⟨(r i row hi).1,fun j x hx=>⟨((r i row hi).2 j x hx).1,by
  obtain ⟨u,h1,h2⟩:=((r i row hi).2 j x hx).2
  have h3:=Ó.1 (Ó.1 hf row (Î hi)) x (Î hx)
  refine ⟨u,h1,F2 h2 ?_ k⟩
  cases x <;> first | rfl | cases h3⟩⟩
theorem QL (r:Rl nt w0 h0 fr bl a w h hd) {v:Value} {x:V} (h3:R3 h hd bl v x) {d:D} (e:lG bl x = some d):ZA d = none:=by
 have:aW (NO w h hd (CI bl x)) v d:=by
  refine uN r _ ?_ e fun p hp=>hp
  cases x with
  | tup vs=>cases e
  | _=>exact h3
 exact ZU this
theorem SX {o:Oper} {f:Nat} {args:List d7} (h:GN P o = .call f args) :
  ∃ (c:Call) (fn:Func),o.op = .call c ∧ c.callee = .value (.func f) ∧ P.funcs[f]? = some fn ∧ aM qM c.args.toList = some args ∧ fn.name ≠ "runtime.NumGoroutine" ∧ fn.body.isSome = true:=by
 unfold GN at h
 cases hl:P7 P o with
 | none=>rw [hl] at h; cases h
 | some so =>
  rw [hl] at h
  simp only [ī] at h
  subst h
  unfold P7 at hl
  cases hop:o.op with
  | call c =>
   rw [hop] at hl
   simp only at hl
   split at hl
   ·rename_i f' hcal
    split at hl
    ·rename_i fn args' hfn hl'
     split at hl
     ·rename_i hc
      cases hl
      exact ⟨c,fn,rfl,hcal,hfn,hl',hc.1,hc.2⟩
     ·cases hl
    ·cases hl
   all_goals repeat' (first | (cases hl; done) | (rw [Â] at hl; obtain ⟨_,_,e⟩:=hl; cases e; done) | split at hl)
  | _ =>
   rw [hop] at hl
   simp only at hl
   try unfold ZL at hl
   repeat' (first | (cases hl; done) | (rw [Â] at hl; obtain ⟨_,_,e⟩:=hl; cases e; done) | split at hl)
theorem aEx {o:Oper} {f:Nat} {caps:List d7} (h:GN P o = .mkfn f caps) :
  ∃ captured:Array Operand,o.op = .makeFunc (.func f) #[] captured ∧ aM qM captured.toList = some caps:=by
 unfold GN at h
 cases hl:P7 P o with
 | none=>rw [hl] at h; cases h
 | some so =>
  rw [hl] at h
  simp only [ī] at h
  subst h
  unfold P7 at hl
  cases hop:o.op with
  | makeFunc fn first captured =>
   rw [hop] at hl
   simp only at hl
   split at hl
   ·split at hl
    ·rename_i hf
     rw [Â] at hl
     obtain ⟨caps',h1,e⟩:=hl
     cases e
     have hfe:first = #[]:=by simpa using hf
     subst hfe
     exact ⟨captured,rfl,h1⟩
    ·cases hl
   ·cases hl
  | _ =>
   rw [hop] at hl
   simp only at hl
   try unfold ZL at hl
   repeat' (first | (cases hl; done) | (rw [Â] at hl; obtain ⟨_,_,e⟩:=hl; cases e; done) | split at hl)
theorem aMo {C:Nat->List D->Option D} (r:Rl nt w0 h0 fr bl a w h hd) (o:Oper) {f:Nat} {caps:List d7} (hlow:GN P o = .mkfn f caps) (hdst:UQ nt w0 o.dst)
  {site:Nat} {v:V} {wr:List (Nat × Option aL)} (ha:iB C site (cZ fr) bl (.mkfnv f caps) = some (v,wr)) {K:Act->World->Prop} {Q:Exit->Act->World->Prop}
  (hK:∀ a' w' h' hd',Rl nt w0 h0 (jP fr o.dst v) (cC bl wr) a' w' h' hd'->K a' w'):o.wp P a w K Q:=by
 obtain ⟨captured,hop,hl⟩:=aEx hlow
 obtain ⟨m1,m2⟩:=bN hl
 simp only [iB] at ha
 split at ha
 ·rename_i hall
  cases ha
  refine nD (s:=Instr.makeFunc (.func f) #[] (captured.map a.eval)) (cv:=.func (.func f) #[] (captured.map a.eval)) (w':=w) (by simp [execOp,hop]) (by simp [Instr.makeFunc]) (hK _ _ _ _ (r.put0 o.dst _ _ hdst ⟨captured.map a.eval,rfl,by simpa using m1,fun j x hx=>?_⟩))
  have hb:=Ó.1 hall x (Î hx)
  rw [Ç,Â] at hx
  obtain ⟨y,hy,rfl⟩:=hx
  obtain ⟨z,z1,z2⟩:=cV hl hy
  have z1' : captured[j]? = some z:=by simpa using z1
  have e3:(captured.map a.eval).getD j undef = a.eval z:=by simp [z1']
  rw [e3]
  have h3:=eE r.frame z2
  generalize cZ fr y = yy at h3 hb
  cases yy with
  | ptr id off=>exact h3
  | _=>cases hb
 ·cases ha
theorem Rl.lent (r:Rl nt w0 h0 fr bl a w h hd) (dst:Option Nat) (hdst:UQ nt w0 dst) (cv:Value) {y:D} {id ver e size:Nat} {rows rows' : List (List D)} (hb:bl id = some (.rows ver e size rows)) {t:Nat} (hbel:GE (c8.lent w t (hd id)) w w')
  (hl:aC6 w' h' (hd id) e size rows') (hy:aW h' cv y) (hf:PF y = true) (hfr:uP rows' = true) :
  Rl nt w0 h0 (jP fr dst (toV y)) (cC bl [(id,some (.rows ver e size rows'))]) (a.put dst cv) w' h hd:=by
 obtain ⟨l1,l2,⟨xs,l3,l4⟩,l5⟩:=hl
 have hbs:=r.below.size
 have hnum:∀ g,jH (hd id) = some g->w0.own g ∧ g < w.heap.size ∧ h g = none:=fun g hg=>(r.blk id _ hb).num rfl hg
 have hbel0:GE w0 w w':=⟨hbel.os,hbel.tape,hbel.output,hbel.size,fun k hk=>hbel.block k fun q=>by
  rcases q with q | q
  ·exact hk (.inl (ñ hbs q))
  ·exact hk (hnum k q).1⟩
 have hsame:∀ g,g < w.heap.size->jH (hd id) ≠ some g->w'.heap[g]? = w.heap[g]?:=fun g hg hn=>hbel.block g fun q=>by
  rcases q with q | q
  ·exact absurd (show w.heap.size <= g from q) (by omega)
  ·exact hn q
 have hle:h.le (hw w'):=fun b o hbo=>by
  have h1:=r.hle b o hbo
  refine (hsame b (Ï.1 h1).1 fun q=>?_).trans h1
  rw [(hnum b q).2.2] at hbo; cases hbo
 have hk:Kp hd hd bl (cC bl [(id,some (.rows ver e size rows'))]):=by
  intro j c hj
  by_cases ej:j = id
  ·subst ej; rw [hb] at hj; cases hj; exact ⟨_,vH _ _ _,.inl ⟨rfl,rfl,rfl,rfl⟩⟩
  ·exact ⟨c,by rw [CM _ _ ej]; exact hj,DD.refl hd j c⟩
 refine r.put dst cv (toV y) hdst (Hp.le.refl _) hle (fun _ _=>rfl) hbel0 hk ?_ ?_ (aFq (F2 hy hf h))
 ·intro j c hj
  by_cases ej:j = id
  ·subst ej
   rw [vH] at hj
   cases hj
   exact ⟨l1,l2,⟨xs,l3,aDk l4 hfr h⟩,fun g hg=>⟨(hnum g hg).2.2,(hnum g hg).1⟩⟩
  ·rw [CM _ _ ej] at hj
   refine (r.blk j c hj).keep (Hp.le.refl _) hk rfl fun hlv g hg=>⟨hsame g ((r.blk j c hj).num hlv hg).2.1 fun q=>ej (r.sep j id c _ g hj hb hlv rfl hg q),fun q=>q⟩
 ·intro i j bi bj g hi hj li lj gi gj
  have back:∀ k c,cC bl [(id,some (.rows ver e size rows'))] k = some c->c.live = true->∃ c',bl k = some c' ∧ c'.live = true:=by
   intro k c hkc hlc
   by_cases ek:k = id
   ·subst ek; exact ⟨_,hb,rfl⟩
   ·rw [CM _ _ ek] at hkc; exact ⟨c,hkc,hlc⟩
  obtain ⟨b1,q1,q2⟩:=back i bi hi li
  obtain ⟨b2,q3,q4⟩:=back j bj hj lj
  exact r.sep i j b1 b2 g q1 q3 q2 q4 gi gj
theorem aQY {C:Nat->List D->Option D} (hC:vV P C) (r:Rl nt w0 h0 fr bl a w h hd) (o:Oper) {so:pF} (hlow:P7 P o = some so) (hdst:UQ nt w0 o.dst)
  {site:Nat} {v:V} {wr:List (Nat × Option aL)} (ha:iB C site (cZ fr) bl so = some (v,wr)) {K:Act->World->Prop} {Q:Exit->Act->World->Prop}
  (hK:∀ a' w' h' hd',Rl nt w0 h0 (jP fr o.dst v) (cC bl wr) a' w' h' hd'->K a' w'):o.wp P a w K Q:=by
 unfold P7 at hlow
 split at hlow
 ·-- move
  rename_i x hop
  rw [Â] at hlow
  obtain ⟨y,h1,rfl⟩:=hlow
  simp only [iB] at ha
  cases ha
  exact nD (s:=pure (a.eval x)) (by simp [execOp,hop]) (by simp) (hK _ _ _ _ (r.put0 o.dst _ _ hdst (eE r.frame h1)))
 ·rename_i x hop
  rw [Â] at hlow
  obtain ⟨y,h1,rfl⟩:=hlow
  simp only [iB] at ha
  cases ha
  exact nD (s:=pure (a.eval x)) (by simp [execOp,hop]) (by simp) (hK _ _ _ _ (r.put0 o.dst _ _ hdst (eE r.frame h1)))
 ·-- pick
  rename_i c x y hop
  split at hlow
  ·rename_i c' x' y' h1 h2 h3
   cases hlow
   simp only [iB] at ha
   have hc:=eE r.frame h1
   split at ha
   ·rename_i hb
    cases ha
    rw [hb] at hc
    exact nD (s:=pure (a.eval x)) (by simp [execOp,hop,mZ hc,asBool]) (by simp) (hK _ _ _ _ (r.put0 o.dst _ _ hdst (eE r.frame h2)))
   ·rename_i hb
    cases ha
    rw [hb] at hc
    exact nD (s:=pure (a.eval y)) (by simp [execOp,hop,mZ hc,asBool]) (by simp) (hK _ _ _ _ (r.put0 o.dst _ _ hdst (eE r.frame h3)))
   ·cases ha
  ·cases hlow
 ·-- alloc
  rename_i e hop
  split at hlow
  ·rename_i i hi
   split at hlow
   ·rename_i z hz
    rw [Â] at hlow
    obtain ⟨zs,h1,rfl⟩:=hlow
    simp only [iB] at ha
    split at ha
    ·rename_i hs
     cases ha
     obtain ⟨z1,z2⟩:=H0 (h:=h) (hd:=hd) (bl:=bl) h1
     obtain ⟨cv,w',hd',q1,q2⟩:=XZ (P:=P) r o.dst hdst site hs e z zs z1 z2
     refine nD (s:=Instr.alloc e true (.tuple #[])) (by simp [execOp,hop]) (cv:=cv) (w':=w') ?_ (hK _ _ _ _ q2)
     simpa [Instr.alloc,zeroValue,CV hi,hz,Result.andThen] using q1
    ·cases ha
   ·cases hlow
  ·cases hlow
 ·-- box
  rename_i e x hop
  rw [Â] at hlow
  obtain ⟨y,h1,rfl⟩:=hlow
  simp only [iB] at ha
  split at ha
  ·rename_i hs
   split at ha
   ·rename_i hk
    cases ha
    obtain ⟨z1,z2⟩:=K9 (eE r.frame h1) hk
    obtain ⟨cv,w',hd',q1,q2⟩:=XZ (P:=P) r o.dst hdst site hs e (a.eval x) _ z1 z2
    exact nD (s:=Instr.box e (a.eval x)) (by simp [execOp,hop]) (by simpa [Instr.box] using q1) (hK _ _ _ _ q2)
   ·cases ha
  ·cases ha
 ·-- build
  rename_i t parts hop
  split at hlow
  ·rename_i i fs hi hu
   split at hlow
   ·rename_i z hz
    split at hlow
    ·rename_i zs ps h1 h2
     split at hlow
     ·rename_i hf
      cases hlow
      simp only [iB] at ha
      rw [Â] at ha
      obtain ⟨cs,q1,q2⟩:=ha
      cases q2
      obtain ⟨cv,q3,q4⟩:=aHS r hi hu hz h1 hf h2 q1
      refine nD (s:=Instr.build t (parts.map fun (i,x)=>(i,a.eval x))) (by simp [execOp,hop]) (cv:=cv) (w':=w) ?_ (hK _ _ _ _ (r.put0 o.dst _ _ hdst q4))
      have e:(parts.map fun x=>(x.1,a.eval x.2)) = (parts.toList.map fun x=>(x.1,a.eval x.2)).toArray:=by obtain ⟨l⟩:=parts; simp
      exact (Ą (fun q=>(Instr.build t q).run P w) e).trans q3
     ·cases hlow
    ·cases hlow
   ·cases hlow
  ·rename_i i n e hi hu
   split at hlow
   ·rename_i z ei hz he
    split at hlow
    ·rename_i zs ps h1 h2
     cases hlow
     simp only [iB] at ha
     rw [Â] at ha
     obtain ⟨cs,q1,q2⟩:=ha
     cases q2
     obtain ⟨cv,q3,q4⟩:=aFM r hi hu hz he h1 h2 q1
     refine nD (s:=Instr.build t (parts.map fun (i,x)=>(i,a.eval x))) (by simp [execOp,hop]) (cv:=cv) (w':=w) ?_ (hK _ _ _ _ (r.put0 o.dst _ _ hdst q4))
     have e:(parts.map fun x=>(x.1,a.eval x.2)) = (parts.toList.map fun x=>(x.1,a.eval x.2)).toArray:=by obtain ⟨l⟩:=parts; simp
     exact (Ą (fun q=>(Instr.build t q).run P w) e).trans q3
    ·cases hlow
   ·cases hlow
  ·cases hlow
 ·-- buildSlice
  rename_i t len parts hop
  split at hlow
  ·rename_i e ht
   split at hlow
   ·rename_i i hi
    split at hlow
    ·rename_i z hz
     split at hlow
     ·rename_i zs h1
      split at hlow
      ·rename_i row ps h2 h3
       split at hlow
       ·rename_i hc
        obtain ⟨c1,c2,c3⟩:=hc
        cases hlow
        obtain ⟨cv,w',h',hd',q1,q2⟩:=XN r ht hi hz h1 h2 c1 c2 c3 h3 o.dst hdst ha
        refine nD (s:=Instr.buildSlice t len (parts.map fun (i,x)=>(i,a.eval x))) (by simp [execOp,hop]) (cv:=cv) (w':=w') ?_ (hK _ _ _ _ q2)
        have e:(parts.map fun x=>(x.1,a.eval x.2)) = (parts.toList.map fun x=>(x.1,a.eval x.2)).toArray:=by obtain ⟨l⟩:=parts; simp
        exact (Ą (fun q=>(Instr.buildSlice t len q).run P w) e).trans q1
       ·cases hlow
      ·cases hlow
     ·cases hlow
    ·cases hlow
   ·cases hlow
  ·cases hlow
 ·-- load
  rename_i t x hop
  split at hlow
  ·rename_i b i x' h1 h2 h3
   cases hlow
   obtain ⟨rfl,cv,q1,q2⟩:=aGu r h1 h2 (eE r.frame h3) ha
   exact nD (s:=Instr.loadAt t (a.eval x)) (by simp [execOp,hop]) q1 (hK _ _ _ _ (r.put0 o.dst _ _ hdst q2))
  ·cases hlow
 ·-- store
  rename_i t x y hop
  split at hlow
  ·rename_i i x' y' h1 h2 h3
   cases hlow
   have hx:=eE r.frame h2
   have hy:=eE r.frame h3
   simp only [iB] at ha
   split at ha
   ·rename_i id off hev
    rw [hev] at hx
    split at ha
    ·rename_i cs hb
     split at ha
     ·rename_i hc
      obtain ⟨c1,c2,c3⟩:=hc
      cases ha
      obtain ⟨w',hd',q1,q2⟩:=aEc r h1 hx hy hb c1 c2 c3 o.dst hdst undef
      exact aGJ (s:=Instr.storeAt t (a.eval x) (a.eval y)) (by simp [execOp,hop]) q1 (hK _ _ _ _ q2)
     ·cases ha
    ·cases ha
   ·rename_i id ver ii off hev
    rw [hev] at hx
    split at ha
    ·rename_i w1 e sz rows hb
     split at ha
     ·rename_i hv
      subst hv
      split at ha
      ·rename_i row ds hrow hds
       split at ha
       ·rename_i hc
        obtain ⟨c1,c2,hfz⟩:=hc
        cases ha
        obtain ⟨w',h',hd',q1,q2⟩:=aCK r h1 hx hy hb hrow hds hfz c1 c2 o.dst hdst undef
        exact aGJ (s:=Instr.storeAt t (a.eval x) (a.eval y)) (by simp [execOp,hop]) q1 (hK _ _ _ _ q2)
       ·cases ha
      ·cases ha
     ·cases ha
    ·cases ha
   ·cases ha
  ·cases hlow
 ·-- nilCheck
  rename_i x hop
  rw [Â] at hlow
  obtain ⟨y,h1,rfl⟩:=hlow
  have hx:=eE r.frame h1
  simp only [iB] at ha
  have key:∀ (ad:Addr),a.eval x = .pointer (some ad)->R3 h hd bl (a.eval x) v->wr = []->o.wp P a w K Q:=by
   intro ad he hv hw
   subst hw
   exact nD (s:=pure (a.eval x)) (by simp [execOp,hop,he]) (by simp) (hK _ _ _ _ (r.put0 o.dst _ _ hdst hv))
  split at ha
  ·rename_i id off hev
   cases ha
   rw [hev] at hx
   obtain ⟨_,g,_,e⟩:=XF hx
   exact key _ e hx rfl
  ·rename_i row off hev
   cases ha
   rw [hev] at hx
   have hx2:=hx
   obtain ⟨_,hr⟩ : D.atom _ = true ∧ aW h (a.eval x) (.ptr row off):=hx
   generalize hq:a.eval x = q at hr
   cases hr with
   | ptr b o1 off n row cv hn hm hr ho=>exact key _ hq hx2 rfl
  ·rename_i id ver ii off hev
   rw [hev] at hx
   split at ha
   ·rename_i v1 e s rows hb
    split at ha
    ·rename_i hv
     cases ha
     subst hv
     have hx2:=hx
     obtain ⟨b,c,hb',hc,hle,h1',he⟩ : ∃ b c,bl id = some b ∧ b.ver? = some c ∧ ver <= c ∧ (a.eval x).oneCell' = true ∧ ∀ e size rows,b = .rows ver e size rows->∃ g b n c,hd id = .slice (some ⟨g,b,none⟩) n c ∧ a.eval x = .pointer (some ⟨g,b + (ii * size + off),none⟩):=hx
     rw [hb] at hb'
     cases hb'
     obtain ⟨g,_,n,c',_,e1⟩:=he e s rows rfl
     exact key _ e1 hx2 rfl
    ·cases ha
   ·cases ha
  ·cases ha
 ·-- binOp
  rename_i op t x y yt hop
  obtain ⟨d,rfl,rfl,cv,q1,q2,q3⟩:=aJY r hlow ha
  exact nD (s:=do eqGuard op t x y (a.eval x) (a.eval y); binOp op t (a.eval x) (a.eval y)) (by simp [execOp,hop]) q1 (hK _ _ _ _ (r.put0 o.dst _ _ hdst ⟨q3,q2⟩))
 ·-- unOp
  rename_i op t x hop
  rw [Â] at hlow
  obtain ⟨y,h1,rfl⟩:=hlow
  simp only [iB,WY.v,Â] at ha
  obtain ⟨d,e1,e2⟩:=ha
  cases e2
  obtain ⟨cv,q1,q2,q3⟩:=aQ1 (P:=P) (w:=w) (eE r.frame h1) e1
  exact nD (s:=Op.unary op (a.eval x)) (by simp [execOp,hop]) q1 (hK _ _ _ _ (r.put0 o.dst _ _ hdst ⟨q3,q2⟩))
 ·-- slice
  rename_i t x lo hi mx hop
  split at hlow
  ·cases hlow
  ·split at hlow
   ·rename_i e x' lo' hi' ht hx hlo hhi
    rw [Â] at hlow
    obtain ⟨i,hi1,rfl⟩:=hlow
    simp only [iB] at ha
    obtain ⟨l1,l2⟩:=aGm r hlo
    obtain ⟨m1,m2⟩:=aGm r hhi
    obtain ⟨cv,h',hd',q1,q2⟩:=aHe r ht hi1 (eE r.frame hx) l1 m1 l2 m2 o.dst hdst ha
    exact nD (s:=Instr.sliceAt t (a.eval x) (lo.map a.eval) (hi.map a.eval) none) (by simp [execOp,hop]) q1 (hK _ _ _ _ q2)
   ·cases hlow
 ·-- fieldAddr
  rename_i s x f hop
  split at hlow
  ·rename_i fs x' hs hx
   split at hlow
   ·rename_i fd hf
    split at hlow
    ·rename_i i hi
     split at hlow
     ·cases hlow
     ·rename_i hz
      cases hlow
      obtain ⟨rfl,cv,q1,q2⟩:=aJm r hs hf hi hz (eE r.frame hx) ha
      exact nD (s:=Instr.fieldAt s (a.eval x) f) (by simp [execOp,hop]) q1 (hK _ _ _ _ (r.put0 o.dst _ _ hdst q2))
    ·cases hlow
   ·cases hlow
  ·cases hlow
 ·-- indexAddr
  rename_i t x j hop
  split at hlow
  ·rename_i e x' j' ht hx hj
   rw [Â] at hlow
   obtain ⟨i,hi,rfl⟩:=hlow
   obtain ⟨rfl,cv,q1,q2⟩:=aI7 ht hi r (eE r.frame hx) (eE r.frame hj) ha
   exact nD (s:=Instr.indexAt t (a.eval x) (a.eval j)) (by simp [execOp,hop]) q1 (hK _ _ _ _ (r.put0 o.dst _ _ hdst q2))
  ·rename_i n e x' k q ht hx hj
   split at hlow
   ·rename_i i hi
    split at hlow
    ·rename_i hc
     obtain ⟨c1,c2,c3⟩:=hc
     cases hlow
     have hjr:=eE r.frame hj
     obtain ⟨rfl,cv,q1,q2⟩:=aLl r ht hi c1 c2 (yS hjr) (eE r.frame hx) ha
     exact nD (s:=Instr.indexAt t (a.eval x) (a.eval j)) (by simp [execOp,hop]) q1 (hK _ _ _ _ (r.put0 o.dst _ _ hdst q2))
    ·cases hlow
   ·cases hlow
  ·cases hlow
 ·-- extract
  rename_i x n hop
  rw [Â] at hlow
  obtain ⟨y,h1,rfl⟩:=hlow
  obtain ⟨rfl,cv,q1,q2⟩:=aCx (P:=P) (w:=w) (eE r.frame h1) ha
  exact nD (s:=Instr.extract (a.eval x) n) (by simp [execOp,hop]) q1 (hK _ _ _ _ (r.put0 o.dst _ _ hdst q2))
 ·-- makeSlice
  rename_i t l c hop
  split at hlow
  ·rename_i e l' c' ht hl hc
   split at hlow
   ·rename_i i hi
    split at hlow
    ·rename_i z hz
     split at hlow
     ·rename_i zs h1
      split at hlow
      ·rename_i row h2
       split at hlow
       ·rename_i hcnd
        cases hlow
        obtain ⟨cv,w',hd',q1,q2⟩:=aMc r ht hi hz hcnd.1 hcnd.2 h1 h2 (eE r.frame hl) (eE r.frame hc) o.dst hdst ha
        exact nD (s:=Instr.makeSlice t (a.eval l) (a.eval c)) (by simp [execOp,hop]) q1 (hK _ _ _ _ q2)
       ·cases hlow
      ·cases hlow
     ·cases hlow
    ·cases hlow
   ·cases hlow
  ·cases hlow
 ·-- makeFunc
  rename_i fn first captured hop
  split at hlow
  ·rename_i f
   split at hlow
   ·rename_i hfirst
    rw [Â] at hlow
    obtain ⟨caps,h1,rfl⟩:=hlow
    simp only [iB] at ha
    split at ha
    ·cases ha
    ·rename_i ds hds
     cases ha
     obtain ⟨m1,m2⟩:=bN h1
     obtain ⟨n1,n2⟩:=bN hds
     have hok:BS bl (caps.flatMap fun x=>JF bl (cZ fr x)):=BS.flatMap1 caps fun x=>cZ fr x
     have hfe:first = #[]:=by simpa using hfirst
     subst hfe
     refine nD (s:=Instr.makeFunc (.func f) #[] (captured.map a.eval)) (cv:=.func (.func f) #[] (captured.map a.eval)) (w':=w) (by simp [execOp,hop]) (by simp [Instr.makeFunc]) (hK _ _ _ _ ((r.freeze _ hok).put0 o.dst _ _ hdst ⟨rfl,.fn f (captured.map a.eval) ds (by simp at m1 ⊢; omega) ?_⟩))
     intro j d hj
     obtain ⟨y,y1,y2⟩:=cV hds hj
     obtain ⟨z,z1,z2⟩:=cV h1 y1
     have z1' : captured[j]? = some z:=by simpa using z1
     have e3:(captured.map a.eval).getD j undef = a.eval z:=by simp [z1']
     rw [e3]
     have h3:=eE r.frame z2
     refine (rD r _ (x:=cZ fr y) ?_ y2 fun p hp=>Ð.2 ⟨y,Î y1,hp⟩).1
     generalize cZ fr y = yy at h3 y2
     cases yy with
     | tup vs=>cases y2
     | agg cs=>cases y2
     | _=>exact h3
   ·cases hlow
  ·cases hlow
 ·-- calls
  rename_i c hop
  have hargs:∀ {l:List d7},aM qM c.args.toList = some l->(c.args.map a.eval).size = l.length ∧ ∀ (j:Nat) (y:d7),l[j]? = some y->R3 h hd bl ((c.args.map a.eval).getD j undef) (cZ fr y):=by
   intro l e
   obtain ⟨m1,m2⟩:=bN e
   refine ⟨by simpa using m1,fun j y hy=>?_⟩
   obtain ⟨x,x1,x2⟩:=cV e hy
   have x1' : c.args[j]? = some x:=by simpa using x1
   have:(c.args.map a.eval).getD j undef = a.eval x:=by simp [x1']
   rw [this]
   exact eE r.frame x2
  split at hlow
  ·-- a function
   rename_i f hcal
   split at hlow
   ·rename_i fn args hfn hl
    split at hlow
    ·rename_i hcnd
     obtain ⟨c1,c2⟩:=hcnd
     cases hlow
     simp only [iB] at ha
     split at ha
     ·cases ha
     ·rename_i ds hds
      split at ha
      ·cases ha
      ·rename_i x hCx
       obtain ⟨a1,a2⟩:=hargs hl
       obtain ⟨m1,m2⟩:=bN hds
       have hexec:(execOp a.eval o).run P w = .ok (.enter f (c.args.map a.eval)) w:=by
        obtain ⟨bd,hbd⟩:=ā.1 c2
        have c1' : (fn.name == "runtime.NumGoroutine") = false:=by simpa using c1
        have e2:c.args.map a.eval ++ #[] = c.args.map a.eval:=by simp
        simp [execOp,hop,resolve,hcal,Act.eval,Deferred.ofValue,invoke,callFunc,hfn,c1,hbd]
       have hpl:mO 0 ds = none:=H5 ds 0 fun d hd=>by
        obtain ⟨i,hi⟩:=î.1 hd
        obtain ⟨y,y1,y2⟩:=cV hds hi
        exact QL r (a2 i y y1) y2
       refine aAz r ((hC f ds x hCx).1 hpl) hdst hexec ha (BS.flatMap args fun x=>cZ fr x) (by omega) (by
        intro i d hi
        obtain ⟨y,y1,y2⟩:=cV hds hi
        have h3:=a2 i y y1
        refine uN r _ ?_ y2 fun p hp=>Ð.2 ⟨y,Î y1,hp⟩
        generalize cZ fr y = yy at h3 y2
        cases yy with
        | tup vs=>cases y2
        | _=>exact h3) hK
    ·cases hlow
   ·cases hlow
  ·-- a function value
   rename_i g hnf hcal
   split at hlow
   ·rename_i x' args hx hl
    cases hlow
    simp only [iB] at ha
    split at ha
    ·rename_i f caps hev
     split at ha
     ·cases ha
     ·rename_i ds hds
      split at ha
      ·cases ha
      ·rename_i x hCx
       obtain ⟨a1,a2⟩:=hargs hl
       obtain ⟨m1,m2⟩:=bN hds
       have hg:=eE r.frame hx
       rw [hev] at hg
       obtain ⟨_,hg⟩ : D.atom _ = true ∧ aW h (a.eval g) (.fn f caps):=hg
       obtain ⟨arr,hge,hgl,hgr⟩ : ∃ arr:Array Value,a.eval g = .func (.func f) #[] arr ∧ arr.size = caps.length ∧ ∀ (j:Nat) (x:D),caps[j]? = some x->aW h (arr.getD j undef) x:=by
        generalize a.eval g = q at hg
        cases hg with
        | fn f arr cs hl hr=>exact ⟨arr,rfl,hl,hr⟩
       have hS:=(hC f _ x hCx).1 (H5 _ 0 fun d hd=>by
        rcases Ê.1 hd with hd | hd
        ·obtain ⟨i,hi⟩:=î.1 hd
         obtain ⟨y,y1,y2⟩:=cV hds hi
         exact QL r (a2 i y y1) y2
        ·obtain ⟨i,hi⟩:=î.1 hd
         exact ZU (hgr i d hi))
       have hS2:=hS
       obtain ⟨⟨fn,g1,g2,g3⟩,_⟩:=hS2
       have hexec:(execOp a.eval o).run P w = .ok (.enter f (c.args.map a.eval ++ arr)) w:=by
        obtain ⟨bd,hbd⟩:=ā.1 g3
        have g2' : (fn.name == "runtime.NumGoroutine") = false:=by simpa using g2
        simp [execOp,hop,resolve,hcal,hge,Deferred.ofValue,invoke,callFunc,g1,g2,hbd]
       refine aAz r hS hdst hexec ha (BS.flatMap args fun x=>cZ fr x) (by simp only [ň,ß]; omega) (by
        intro i d hi
        rw [List.getElem?_append] at hi
        by_cases hlt:i < ds.length
        ·rw [Á hlt] at hi
         obtain ⟨y,y1,y2⟩:=cV hds hi
         have h3:=a2 i y y1
         have e3:(c.args.map a.eval ++ arr).getD i undef = (c.args.map a.eval).getD i undef:=by
          simp only [Ì]
          rw [ċ (by omega)]
         rw [e3]
         refine uN r _ ?_ y2 fun p hp=>Ð.2 ⟨y,Î y1,hp⟩
         generalize cZ fr y = yy at h3 y2
         cases yy with
         | tup vs=>cases y2
         | _=>exact h3
        ·rw [Ã hlt] at hi
         have e3:(c.args.map a.eval ++ arr).getD i undef = arr.getD (i - ds.length) undef:=by
          simp only [Ì]
          rw [Ŗ (by omega)]
          congr 3
          omega
         rw [e3]
         exact (hgr _ d hi).mono (D2 r _)) hK
    ·cases ha
   ·cases hlow
  ·-- len
   rename_i hcal
   split at hlow
   ·rename_i x t hca hct
    have hca:c.args = #[x]:=by rw [← ù (xs:=c.args),hca]
    have hct:c.argTypes = #[t]:=by rw [← ù (xs:=c.argTypes),hct]
    split at hlow
    ·rename_i e x' ht hx
     cases hlow
     obtain ⟨rfl,cv,q1,q2⟩:=aOG (P:=P) (ty:=o.type) r ht (eE r.frame hx) ha
     exact nD (s:=Builtin.len_ #[t] o.type #[a.eval x]) (by simp [execOp,hop,resolve,hcal,hca,hct,invoke,builtin]) q1 (hK _ _ _ _ (r.put0 o.dst _ _ hdst q2))
    ·cases hlow
   ·cases hlow
  ·-- append
   rename_i hcal
   split at hlow
   ·rename_i x y t u hca hct
    have hca:c.args = #[x,y]:=by rw [← ù (xs:=c.args),hca]
    have hct:c.argTypes = #[t,u]:=by rw [← ù (xs:=c.argTypes),hct]
    split at hlow
    ·rename_i htu
     subst htu
     split at hlow
     ·rename_i e x' y' ht hx hy
      split at hlow
      ·rename_i i hi
       split at hlow
       ·rename_i z hz
        split at hlow
        ·rename_i hcnd
         obtain ⟨c1,c2,c3⟩:=hcnd
         cases hlow
         obtain ⟨cv,w',hd',q1,q2⟩:=aEQ (ty:=o.type) r ht hi hz c1 c2 c3 (eE r.frame hx) (eE r.frame hy) o.dst hdst ha
         exact nD (s:=Builtin.append_ #[t,t] o.type #[a.eval x,a.eval y]) (by simp [execOp,hop,resolve,hcal,hca,hct,invoke,builtin]) q1 (hK _ _ _ _ q2)
        ·cases hlow
       ·cases hlow
      ·cases hlow
     ·cases hlow
    ·cases hlow
   ·cases hlow
  ·-- min
   rename_i hcal
   rw [Â] at hlow
   obtain ⟨l,h1,rfl⟩:=hlow
   simp only [iB,WY.v,Â] at ha
   obtain ⟨d,e1,e2⟩:=ha
   cases e2
   obtain ⟨a1,a2⟩:=hargs h1
   obtain ⟨cv,q1,q2,q3⟩:=aOX (P:=P) (w:=w) (h:=h) (hd:=hd) (bl:=bl) (c.args.map a.eval).toList (l.map (cZ fr)) d (by simpa using a1.symm) (fun j y hy=>by
    rw [Ç,Â] at hy
    obtain ⟨z,z1,rfl⟩:=hy
    simpa using a2 j z z1) e1 c.argTypes o.type
   refine nD (s:=Builtin.min_ c.argTypes o.type (c.args.map a.eval)) (by simp [execOp,hop,resolve,hcal,invoke,builtin]) (cv:=cv) (w':=w) ?_ (hK _ _ _ _ (r.put0 o.dst _ _ hdst ⟨q3,q2⟩))
   rw [ù] at q1
   exact q1
  ·cases hlow
 ·cases hlow
theorem aOx {C:Nat->List D->Option D} (hC:vV P C) (r:Rl nt w0 h0 fr bl a w h hd) (o:Oper) {f t:Nat} {args:List d7} (hlow:GN P o = .call f args) (hdst:UQ nt w0 o.dst)
  {site:Nat} {v:V} {wr:List (Nat × Option aL)} (ha:iB C site (cZ fr) bl (.lend f args t) = some (v,wr)) {K:Act->World->Prop} {Q:Exit->Act->World->Prop}
  (hK:∀ a' w' h' hd',Rl nt w0 h0 (jP fr o.dst v) (cC bl wr) a' w' h' hd'->K a' w'):o.wp P a w K Q:=by
 obtain ⟨c,fn,hop,hcal,hfn,hl,c1,c2⟩:=SX hlow
 obtain ⟨m1,m2⟩:=bN hl
 have a1:(c.args.map a.eval).size = args.length:=by simpa using m1
 have a2:∀ (j:Nat) (y:d7),args[j]? = some y->R3 h hd bl ((c.args.map a.eval).getD j undef) (cZ fr y):=fun j y hy=>by
  obtain ⟨x,x1,x2⟩:=cV hl hy
  have x1' : c.args[j]? = some x:=by simpa using x1
  have:(c.args.map a.eval).getD j undef = a.eval x:=by simp [x1']
  rw [this]
  exact eE r.frame x2
 have hexec:(execOp a.eval o).run P w = .ok (.enter f (c.args.map a.eval)) w:=by
  obtain ⟨bd,hbd⟩:=ā.1 c2
  have c1' : (fn.name == "runtime.NumGoroutine") = false:=by simpa using c1
  simp [execOp,hop,resolve,hcal,Act.eval,Deferred.ofValue,invoke,callFunc,hfn,c1,hbd]
 simp only [iB] at ha
 split at ha
 ·rename_i id ver hlent
  split at ha
  ·cases ha
  ·rename_i ds hds
   split at ha
   ·rename_i hni
    split at ha
    ·rename_i y e size rows' hCx
     split at ha
     ·rename_i vv e' size' rows hb
      split at ha
      ·rename_i hc
       obtain ⟨rfl,rfl,rfl,hfy,hfr⟩:=hc
       cases ha
       obtain ⟨n1,n2⟩:=aA8 hds
       have hsz:(c.args.map a.eval).size = ds.length:=by rw [a1,← n1]; simp
       obtain ⟨dt,t1,t2⟩:=n2 t _ hlent
       rw [Ĥ,Á rfl] at t2
       simp only [T7,hb,Č,Å] at t2
       subst t2
       have hother:∀ (i:Nat) (d:D),i ≠ t->ds[i]? = some d->∃ y,args[i]? = some y ∧ lG bl (cZ fr y) = some d:=fun i d hi hd=>by
        have hlt:i < (args.map (cZ fr)).length:=by rw [n1]; exact (Æ.1 hd).1
        have hlt' : i < args.length:=by simpa using hlt
        obtain ⟨d',q1,q2⟩:=n2 i _ (é hlt)
        rw [Ĥ,Ã hi] at q2
        rw [hd] at q1
        cases q1
        exact ⟨args[i],by simp [hlt'],by simpa using q2⟩
       have hat:mO 0 ds = some t:=by
        have:=V7 ds 0 t _ t1 rfl (fun j x hj hx=>by
         obtain ⟨y,hy,q⟩:=hother j x (by omega) hx
         exact QL r (a2 j y hy) q)
        simpa using this
       have hS:=(hC f ds _ hCx).2 t hat
       have hok:=aAZ (bl:=bl) (t:=t) (args.map (cZ fr)) 0
       have hr:=r.freeze _ hok
       obtain ⟨xt,xt1,xt2⟩ : ∃ x,args[t]? = some x ∧ cZ fr x = .own id ver:=by
        rw [Ç,Â] at hlent
        exact hlent
       have hvt:(c.args.map a.eval).getD t undef = hd id:=by
        have h3:=a2 t xt xt1
        rw [xt2] at h3
        obtain ⟨b,cc,g1,g2,g3,g4,g5⟩ : ∃ b c',bl id = some b ∧ b.ver? = some c' ∧ ver <= c' ∧ _ ∧ (ver = c'->_ = hd id):=h3
        rw [hb] at g1
        cases g1
        simp only [aL.ver?,Å] at g2
        exact g5 g2
       have hb1:cC bl (AA bl t 0 (args.map (cZ fr))) id = some (.rows ver e size rows):=by
        have hn:=X9 hni
        unfold cC
        rcases E8 (AA bl t 0 (args.map (cZ fr))) (bl id) id with q | ⟨p,q1,q2,q3⟩
        ·rw [q]; exact hb
        ·exact absurd q2 (hn p q1)
       obtain ⟨k1,k2,k3,k4⟩:=hr.blk id _ hb1
       have hcalls:=hS.2 e size rows rows' y t1 rfl w _ (c.args.map a.eval) (RQ r _) hsz (fun i d hi hdi=>by
        obtain ⟨z,z1,z2⟩:=hother i d hi hdi
        have h3:=a2 i z z1
        refine uN r _ ?_ z2 fun p hp=>ZG (t:=t) (args.map (cZ fr)) 0 i (cZ fr z) (by rw [Ç,z1]; rfl) (by omega) p hp
        generalize cZ fr z = zz at h3 z2
        cases zz with
        | tup vs=>cases z2
        | _=>exact h3) (by rw [hvt]; exact ⟨k1,k2,k3,fun g hg=>(k4 g hg).1⟩)
       unfold Oper.wp
       rw [hexec]
       simp only [Oper.upon]
       refine hcalls.mono ?_
       rintro en w' ⟨cv,h',rfl,g1,g2,g3,g4,g5⟩
       rw [hvt] at g2 g5
       simp only
       exact hK _ _ h hd (r.lent o.dst hdst cv hb g5 g2 g1 hfy hfr)
      ·cases ha
     ·cases ha
    ·cases ha
   ·cases ha
 ·cases ha
theorem KM {hd:Nat->Value} {bl:Nat->Option aL} {v:Value} {d:D} (hc:aAR d = true) (k:Hp) (site:Nat) (r:R1 h hd bl v (aDg site d)):R1 k hd bl v (aDg site d):=by
 cases d with
 | ref n=>exact r
 | mref n=>exact r
 | int kk n=>exact ⟨r.1,EY r.2 rfl k⟩
 | bool b=>exact ⟨r.1,EY r.2 rfl k⟩
 | str s=>exact ⟨r.1,EY r.2 rfl k⟩
 | _=>simp [aAR,NF] at hc
theorem GU {hd:Nat->Value} {bl:Nat->Option aL} {v:Value} {d:D} (hc:aDq d = true) (k:Hp) (site:Nat) (r:R2 h hd bl v (aAT site d)):R2 k hd bl v (aAT site d):=by
 cases d with
 | agg cs =>
  obtain ⟨arr,e,hs,hr⟩:=r
  refine ⟨arr,e,hs,fun j x hx=>?_⟩
  have:=hr j x hx
  rw [Ç,Â] at hx
  obtain ⟨y,hy,rfl⟩:=hx
  exact ⟨KM (Ó.1 hc y (Î hy)) k site this.1,this.2⟩
 | ref n=>exact KM (h:=h) (hd:=hd) (bl:=bl) (v:=v) (d:=.ref n) rfl k site r
 | mref n=>exact KM (h:=h) (hd:=hd) (bl:=bl) (v:=v) (d:=.mref n) rfl k site r
 | int kk n=>exact KM (h:=h) (hd:=hd) (bl:=bl) (v:=v) (d:=.int kk n) rfl k site r
 | bool b=>exact KM (h:=h) (hd:=hd) (bl:=bl) (v:=v) (d:=.bool b) rfl k site r
 | str s=>exact KM (h:=h) (hd:=hd) (bl:=bl) (v:=v) (d:=.str s) rfl k site r
 | _=>simp [aDq,aAR,NF] at hc
theorem aMJ {hd:Nat->Value} {bl:Nat->Option aL} {v:Value} {d:D} (hc:aG2 d = true) (k:Hp) (site:Nat) (r:R3 h hd bl v (thaw site d)):R3 k hd bl v (thaw site d):=by
 cases d with
 | tup vs =>
  obtain ⟨arr,e,hs,hr⟩:=r
  refine ⟨arr,e,hs,fun j x hx=>?_⟩
  have:=hr j x hx
  rw [Ç,Â] at hx
  obtain ⟨y,hy,rfl⟩:=hx
  exact GU (Ó.1 hc y (Î hy)) k site this
 | agg cs=>exact GU (h:=h) (hd:=hd) (bl:=bl) (v:=v) (d:=.agg cs) hc k site r
 | ref n=>exact GU (h:=h) (hd:=hd) (bl:=bl) (v:=v) (d:=.ref n) rfl k site r
 | mref n=>exact GU (h:=h) (hd:=hd) (bl:=bl) (v:=v) (d:=.mref n) rfl k site r
 | int kk n=>exact GU (h:=h) (hd:=hd) (bl:=bl) (v:=v) (d:=.int kk n) rfl k site r
 | bool b=>exact GU (h:=h) (hd:=hd) (bl:=bl) (v:=v) (d:=.bool b) rfl k site r
 | str s=>exact GU (h:=h) (hd:=hd) (bl:=bl) (v:=v) (d:=.str s) rfl k site r
 | _=>simp [aG2,aDq,aAR,NF] at hc
theorem aDV {k:Hp} {size:Nat} {rows:List (List D)} {xs:List Value} (hf:uP rows = true) (r:lC h size rows xs):lC k size rows xs:=fun i row hi =>
 ⟨(r i row hi).1,fun j x hx=>⟨((r i row hi).2 j x hx).1,by
  obtain ⟨u,h1,h2⟩:=((r i row hi).2 j x hx).2
  exact ⟨u,h1,EY h2 (Ó.1 (Ó.1 hf row (Î hi)) x (Î hx)) k⟩⟩⟩
theorem WG (site:Nat):∀ (es:List (Nat × Nat)) (rs:List (List (List D))) (n:Nat),∀ p ∈ i9 site n es rs,∃ e size rows,p.2 = some (E6 e size rows) ∧ rows ∈ rs
 | [],rs,n,p,hp=>by simp [i9] at hp
 | (e,size) :: es,[],n,p,hp=>by simp [i9] at hp
 | (e,size) :: es,rows :: rs,n,p,hp=>by
  simp only [i9,Ô] at hp
  rcases hp with rfl | hp
  ·exact ⟨_,_,_,rfl,à ..⟩
  ·obtain ⟨e,size,rows,h1,h2⟩:=WG site es rs (n + 1) p hp
   exact ⟨e,size,rows,h1,Õ _ h2⟩
theorem aJB {C:Nat->List D->Option D} (hC:vV P C) (r:Rl nt w0 h0 fr bl a w h hd) (o:Oper) {f:Nat} {args:List d7} (hlow:GN P o = .call f args) (hdst:UQ nt w0 o.dst)
  {site:Nat} {v:V} {wr:List (Nat × Option aL)} (ha:iB C site (cZ fr) bl (.calln f args) = some (v,wr)) {K:Act->World->Prop} {Q:Exit->Act->World->Prop}
  (hK:∀ a' w' h' hd',Rl nt w0 h0 (jP fr o.dst v) (cC bl wr) a' w' h' hd'->K a' w'):o.wp P a w K Q:=by
 obtain ⟨c,fn,hop,hcal,hfn,hl,c1,c2⟩:=SX hlow
 obtain ⟨m1,m2⟩:=bN hl
 have a1:(c.args.map a.eval).size = args.length:=by simpa using m1
 have a2:∀ (j:Nat) (y:d7),args[j]? = some y->R3 h hd bl ((c.args.map a.eval).getD j undef) (cZ fr y):=fun j y hy=>by
  obtain ⟨x,x1,x2⟩:=cV hl hy
  have x1' : c.args[j]? = some x:=by simpa using x1
  have:(c.args.map a.eval).getD j undef = a.eval x:=by simp [x1']
  rw [this]
  exact eE r.frame x2
 have hexec:(execOp a.eval o).run P w = .ok (.enter f (c.args.map a.eval)) w:=by
  obtain ⟨bd,hbd⟩:=ā.1 c2
  have c1' : (fn.name == "runtime.NumGoroutine") = false:=by simpa using c1
  simp [execOp,hop,resolve,hcal,Act.eval,Deferred.ofValue,invoke,callFunc,hfn,c1,hbd]
 simp only [iB] at ha
 split at ha
 ·cases ha
 rename_i ds hds
 split at ha
 ·rename_i x es rs hCx
  split at ha
  ·rename_i hnew
   obtain ⟨n1,n2⟩:=bN hds
   have hpl:mO 0 ds = none:=H5 ds 0 fun d hd=>by
    obtain ⟨i,hi⟩:=î.1 hd
    obtain ⟨y,y1,y2⟩:=cV hds hi
    exact QL r (a2 i y y1) y2
   have hok:BS bl (args.flatMap fun x=>CI bl (cZ fr x)):=BS.flatMap args fun x=>cZ fr x
   have hS:=((hC f ds _ hCx).1 hpl).2 w (NO w h hd (args.flatMap fun x=>CI bl (cZ fr x))) (c.args.map a.eval) (RQ r _) (by omega) (by
    intro i d hi
    obtain ⟨y,y1,y2⟩:=cV hds hi
    have h3:=a2 i y y1
    refine (uN r _ ?_ y2 fun p hp=>Ð.2 ⟨y,Î y1,hp⟩)
    generalize cZ fr y = yy at h3 y2
    cases yy with
    | tup vs=>cases y2
    | _=>exact h3)
   unfold Oper.wp
   rw [hexec]
   simp only [Oper.upon]
   refine hS.mono ?_
   rintro e w' ⟨cv,h',rfl,g1,g2,g3,g4,g5⟩
   simp only
   simp only [uJ] at ha
   split at ha
   ·rename_i hfree
    cases ha
    simp only [QM,Ø] at hnew
    obtain ⟨hc,hfl⟩:=hnew
    obtain ⟨hd0,q1,q2,q3⟩:=g1 site
    have hle:h.le (hw w'):=fun b ob hb=>(g5.block b (Ï.1 (r.hle b ob hb)).1).trans (r.hle b ob hb)
    have hup:h.le h':=(D2 r _).trans g2
    obtain ⟨hd',r'⟩:=r.thaw o.dst hdst cv _ (Hp.le.refl _) hle (fun _ _=>rfl) g5 (i9 site 0 es rs) (YP hfree) (L1 site es rs 0) hd0 (aMJ hc h site q1) (fun id b hb=>by
     have hB:=q2 id b hb
     have hmem:∃ e size rows,b = E6 e size rows ∧ rows ∈ rs:=by
      have hb' : cC (fun _=>none) (i9 site 0 es rs) id = some b:=hb
      unfold cC at hb'
      rcases E8 (i9 site 0 es rs) none id with q | ⟨p,p1,p2,p3⟩
      ·rw [q] at hb'; cases hb'
      ·obtain ⟨e,size,rows,k1,k2⟩:=WG site es rs 0 p p1
       rw [← p3,k1] at hb'
       cases hb'
       exact ⟨e,size,rows,rfl,k2⟩
     obtain ⟨e,size,rows,rfl,hr⟩:=hmem
     unfold E6 at hB ⊢
     by_cases hsz:size = 0
     ·rw [Á hsz] at hB ⊢
      obtain ⟨g,k1,k2,k3,k4⟩:=hB
      refine ⟨g,k1,k2,k3,?_⟩
      cases hh:h g with
      | none=>rfl
      | some ob=>have:=hup g ob hh; rw [k4] at this; cases this
     ·rw [Ã hsz] at hB ⊢
      obtain ⟨k1,k2,⟨xs,k3,k4⟩,k5⟩:=hB
      refine ⟨k1,k2,⟨xs,k3,aDV (Ó.1 hfl rows hr) k4⟩,fun g hg=>⟨?_,(k5 g hg).2⟩⟩
      cases hh:h g with
      | none=>rfl
      | some ob=>have:=hup g ob hh; rw [(k5 g hg).1] at this; cases this) q3
    rw [Û] at hK
    exact hK _ _ h hd' r'
   ·cases ha
  ·cases ha
 ·cases ha
theorem aTA {C:Nat->List D->Option D} (hC:vV P C) (r:Rl nt w0 h0 fr bl a w h hd) (o:Oper) (hdst:UQ nt w0 o.dst)
  {site:Nat} {v:V} {wr:List (Nat × Option aL)} (ha:iB C site (cZ fr) bl (GN P o) = some (v,wr)) {K:Act->World->Prop} {Q:Exit->Act->World->Prop}
  (hK:∀ a' w' h' hd',Rl nt w0 h0 (jP fr o.dst v) (cC bl wr) a' w' h' hd'->K a' w'):o.wp P a w K Q:=by
 unfold GN at ha
 cases hl:P7 P o with
 | none=>rw [hl] at ha; cases ha
 | some so=>rw [hl] at ha; exact aQY hC r o hl hdst ha hK
end
end Vm
end
section
namespace Vm
open Go.RowKit
def V.ids1:V->List Nat
 | .ptr id _ | .own id _ | .orow id _ _ _ | .mp id=>[id]
 | _=>[]
def V.ids:V->List Nat
 | .agg cs=>cs.flatMap V.ids1
 | v=>v.ids1
def V.dids1 (bl:Nat->Option aL):V->List Nat
 | .ptr id _=>id :: (match bl id with | some (.box cs)=>cs.flatMap V.ids1 | _=>[])
 | v=>v.ids1
def V.dids (bl:Nat->Option aL):V->List Nat
 | .agg cs=>cs.flatMap (V.dids1 bl)
 | v=>v.dids1 bl
def pF.opds:pF->List d7
 | .move x | .box x | .load _ _ x | .nilCheck x | .un _ x | .fieldAddr _ x | .len x | .extract x _=>[x]
 | .alloc _ | .fail=>[]
 | .lend _ args _=>args
 | .pick c a b=>[c,a,b]
 | .build _ ps=>ps.map fun p=>p.2.2
 | .buildSlice _ _ _ _ ps=>ps.map fun p=>p.2
 | .store _ x v=>[x,v]
 | .bin _ _ x y | .eqS _ _ x y | .indexAddr _ x y | .append _ _ _ x y | .makeSlice _ _ _ _ x y=>[x,y]
 | .slice _ x lo hi=>x :: (lo.toList ++ hi.toList)
 | .min l=>l
 | .call _ args=>args
 | .calln _ args=>args
 | .mkfn _ caps=>caps
 | .mkfnv _ caps=>caps
 | .callv g args=>g :: args
def pF.peeks:pF->List d7
 | .load _ _ x | .nilCheck x | .fieldAddr _ x | .len x | .slice _ x _ _ | .store _ x _ | .indexAddr _ x _=>[x]
 | .append _ _ _ x y=>[x,y]
 | .mkfnv _ caps=>caps
 | _=>[]
def pF.deeps:pF->List d7
 | .store _ _ v=>[v]
 | .buildSlice _ _ _ _ ps=>ps.map fun p=>p.2
 | .call _ args=>args
 | .calln _ args=>args
 | .mkfn _ caps=>caps
 | .callv _ args=>args
 | .lend _ args _=>args
 | _=>[]
def pF.new:pF->Bool
 | .alloc _ | .box _ | .buildSlice _ _ _ _ _ | .append _ _ _ _ _ | .makeSlice _ _ _ _ _ _=>true
 | _=>false
section
variable {ev ev' : d7->V} {bl bl' : Nat->Option aL}
theorem RP {v:V} (h:∀ id ∈ v.ids1,bl id = bl' id):AB bl v = AB bl' v:=by
 cases v with
 | own id ver=>simp only [AB]; rw [h id (by simp [V.ids1])]
 | ptr id off=>simp only [AB]; rw [h id (by simp [V.ids1])]
 | mp id=>simp only [AB]; rw [h id (by simp [V.ids1])]
 | _=>rfl
theorem aBb {v:V} (h:∀ id ∈ v.ids1,bl id = bl' id):TY bl v = TY bl' v:=by
 cases v with
 | own id ver=>simp only [TY]; rw [h id (by simp [V.ids1])]
 | mp id=>simp only [TY]; rw [h id (by simp [V.ids1])]
 | _=>rfl
theorem mM {α β:Type} {f g:α->Option β}:∀ {l:List α},(∀ x ∈ l,f x = g x)->aM f l = aM g l
 | [],_=>rfl
 | x :: l,h=>by simp only [aM]; rw [h x (by simp),mM (fun y hy=>h y (by simp [hy]))]
theorem gK {α β:Type} {f g:α->List β}:∀ {l:List α},(∀ x ∈ l,f x = g x)->l.flatMap f = l.flatMap g
 | [],_=>rfl
 | x :: l,h=>by simp only [ÿ]; rw [h x (by simp),gK (fun y hy=>h y (by simp [hy]))]
theorem LH {v:V} (h:∀ id ∈ v.dids1 bl,bl id = bl' id):pE bl v = pE bl' v:=by
 cases v with
 | ptr id off =>
  have e:=h id (by simp [V.dids1])
  simp only [pE]
  rw [← e]
  cases hb:bl id with
  | none=>rfl
  | some b =>
   cases b with
   | box cs =>
    simp only
    rw [mM fun x hx=>RP fun i hi=>h i ?_]
    simp only [V.dids1,hb]
    exact Õ _ (Ð.2 ⟨x,hx,hi⟩)
   | _=>rfl
 | _=>simp only [pE]; exact RP (by simpa only [V.dids1] using h)
theorem DU {v:V} (h:∀ id ∈ v.dids1 bl,bl id = bl' id):JF bl v = JF bl' v:=by
 cases v with
 | ptr id off =>
  have e:=h id (by simp [V.dids1])
  simp only [JF]
  rw [← e]
  cases hb:bl id with
  | none=>rfl
  | some b =>
   cases b with
   | box cs =>
    have hl:∀ x ∈ cs,∀ i ∈ x.ids1,bl i = bl' i:=fun x hx i hi=>h i (by
     simp only [V.dids1,hb]
     exact Õ _ (Ð.2 ⟨x,hx,hi⟩))
    simp only
    rw [mM fun x hx=>RP (hl x hx),gK fun x hx=>aBb (hl x hx)]
   | _=>rfl
 | _=>simp only [JF]; exact aBb (by simpa only [V.dids1] using h)
theorem V9 {v:V} (h:∀ id ∈ v.ids1,bl id = bl' id):v.dids1 bl = v.dids1 bl':=by
 cases v with
 | ptr id off=>simp only [V.dids1]; rw [h id (by simp [V.ids1])]
 | _=>rfl
theorem XL {v:V}:∀ id ∈ v.ids1,id ∈ v.dids1 bl:=by
 intro id h
 cases v with
 | ptr i off=>simp only [V.ids1,ê] at h; subst h; simp [V.dids1]
 | _=>simp only [V.dids1]; exact h
theorem yO {v:V} (h:∀ id ∈ v.ids1,bl id = bl' id):pB bl v = pB bl' v:=by
 cases v with
 | d x=>cases x <;> rfl
 | own id ver=>simp only [pB]; rw [h id (by simp [V.ids1])]
 | _=>rfl
theorem aB8 {v:V} (h:∀ id ∈ v.ids1,bl id = bl' id) (size:Nat) (lo hi:Option V):GW bl size v lo hi = GW bl' size v lo hi:=by
 cases v with
 | own id ver =>
  have e:=h id (by simp [V.ids1])
  rw [UX,UX]
  cases lo with
  | some l=>(dsimp only; rw [yO h,DU (v:=.own id ver) h])
  | none=>cases hi with
   | none=>(dsimp only; rw [yO h,DU (v:=.own id ver) h])
   | some x=>cases x with
    | d y=>cases y with
     | int k n=>dsimp only; rw [e]
     | _=>(dsimp only; rw [yO h,DU (v:=.own id ver) h])
    | _=>(dsimp only; rw [yO h,DU (v:=.own id ver) h])
 | d x=>cases x <;> rfl
 | _=>rfl
theorem aM6 {v:V}:∀ id ∈ v.ids1,id ∈ v.ids:=by
 intro id h
 cases v <;> first | exact h | simp [V.ids1] at h
theorem S3 {v:V}:∀ id ∈ v.dids1 bl,id ∈ v.dids bl:=by
 intro id h
 cases v <;> first | exact h | simp [V.dids1,V.ids1] at h
theorem aFe {v:V} (h:∀ id ∈ v.ids,bl id = bl' id):v.dids bl = v.dids bl':=by
 cases v with
 | agg cs=>exact gK fun x hx=>V9 fun i hi=>h i (Ð.2 ⟨x,hx,hi⟩)
 | _=>simp only [V.dids]; exact V9 (by simpa only [V.ids] using h)
theorem aMi {v:V}:∀ id ∈ v.ids,id ∈ v.dids bl:=by
 intro id h
 cases v with
 | agg cs =>
  obtain ⟨x,hx,hi⟩:=Ð.1 h
  exact Ð.2 ⟨x,hx,XL id hi⟩
 | _=>simp only [V.dids]; exact XL id (by simpa only [V.ids] using h)
theorem V8 {v:V} (h:∀ id ∈ v.dids bl,bl id = bl' id):aM (pE bl) v.cells = aM (pE bl') v.cells:=by
 refine mM fun x hx=>LH fun id hid=>h id ?_
 cases v with
 | agg cs=>exact Ð.2 ⟨x,hx,hid⟩
 | _=>simp only [V.cells,ê] at hx; subst hx; exact S3 id hid
theorem BH {v:V} (h:∀ id ∈ v.dids bl,bl id = bl' id):lG bl v = lG bl' v:=by
 cases v with
 | agg cs =>
  simp only [lG]
  rw [mM fun x hx=>LH fun id hid=>h id (Ð.2 ⟨x,hx,hid⟩)]
 | _=>simp only [lG]; exact LH fun id hid=>h id (S3 id hid)
theorem DV {v:V} (h:∀ id ∈ v.dids bl,bl id = bl' id):CI bl v = CI bl' v:=by
 cases v with
 | agg cs=>exact gK fun x hx=>DU fun id hid=>h id (Ð.2 ⟨x,hx,hid⟩)
 | _=>simp only [CI]; exact DU fun id hid=>h id (S3 id hid)
theorem QH (size:Nat):∀ (ps:List (Nat × V)) (rs:List (List D)),(∀ p ∈ ps,∀ id ∈ p.2.dids bl,bl id = bl' id)->pN bl size rs ps = pN bl' size rs ps
 | [],rs,_=>rfl
 | (i,v) :: r,rs,h=>by
  simp only [pN]
  rw [V8 (h (i,v) (by simp))]
  cases aM (pE bl') v.cells with
  | none=>rfl
  | some row=>simp only; rw [QH size r _ fun p hp=>h p (by simp [hp])]
theorem WM (t:Nat):∀ (vs:List V),(∀ v ∈ vs,∀ id ∈ v.dids bl,bl id = bl' id)->∀ i,KG bl t i vs = KG bl' t i vs
 | [],_,_=>rfl
 | v :: r,h,i=>by
  simp only [KG]
  rw [WM t r (fun x hx=>h x (Õ _ hx)) (i + 1),BH (h v (à ..))]
  have e:T7 bl v = T7 bl' v:=by
   cases v with
   | own id ver=>simp only [T7]; rw [h _ (à ..) id (by simp [V.dids,V.dids1,V.ids1])]
   | _=>rfl
  rw [e]
theorem UP (t:Nat):∀ (vs:List V),(∀ v ∈ vs,∀ id ∈ v.dids bl,bl id = bl' id)->∀ i,AA bl t i vs = AA bl' t i vs
 | [],_,_=>rfl
 | v :: r,h,i=>by
  simp only [AA]
  rw [UP t r (fun x hx=>h x (Õ _ hx)) (i + 1),DV (h v (à ..))]
theorem aE0 {v:V} (h:∀ id ∈ v.ids,bl id = bl' id):VD bl v = VD bl' v:=by
 cases v with
 | ptr id off=>simp only [VD]; rw [h id (by simp [V.ids,V.ids1])]
 | _=>rfl
def pF.isCall:pF->Bool
 | .call _ _ | .callv _ _ | .calln _ _=>true
 | _=>false
theorem VW:∀ {l:List (Nat × Option aL)},(∀ p ∈ l,bl p.1 = bl' p.1)->UM bl l = UM bl' l
 | [],_=>rfl
 | (i,b) :: l,h=>by
  simp only [UM]
  rw [h (i,b) (by simp),VW fun p hp=>h p (by simp [hp])]
theorem JM {site:Nat} {fz wr:List (Nat × Option aL)} {r:D} {v:V} (h:∀ p ∈ wr,bl p.1 = bl' p.1) (hs:uJ site bl fz r = some (v,wr)):uJ site bl' fz r = some (v,wr):=by
 by_cases hx:∃ y es rs,r = .own y es rs
 ·obtain ⟨y,es,rs,rfl⟩:=hx
  simp only [uJ] at hs ⊢
  split at hs
  ·rename_i hf
   cases hs
   rw [← VW (bl:=bl) fun p hp=>h p (Ê.2 (.inl hp)),Á hf]
  ·cases hs
 ·have hx:∀ y es rs,r ≠ .own y es rs:=fun y es rs e=>hx ⟨y,es,rs,e⟩
  rw [MN hx] at hs ⊢
  exact hs
theorem UV {C:Nat->List D->Option D} {site:Nat} (so:pF) (h5:so.isCall = true->∀ fz r,uJ site bl fz r = uJ site bl' fz r) (h1:∀ x ∈ so.opds,ev x = ev' x) (h2:∀ x ∈ so.peeks,∀ id ∈ (ev x).ids,bl id = bl' id) (h2' : ∀ x ∈ so.deeps,∀ id ∈ (ev x).dids bl,bl id = bl' id) (h3:so.new = true->bl site = bl' site):iB C site ev bl so = iB C site ev' bl' so:=by
 have one:∀ x ∈ so.peeks,∀ id ∈ (ev x).ids1,bl id = bl' id:=fun x hx id hid=>h2 x hx id (aM6 id hid)
 cases so with
 | fail=>rfl
 | move x=>simp only [iB]; rw [h1 x (by simp [pF.opds])]
 | pick c a b=>simp only [iB]; rw [h1 c (by simp [pF.opds]),h1 a (by simp [pF.opds]),h1 b (by simp [pF.opds])]
 | alloc z=>simp only [iB]; rw [h3 rfl]
 | box x=>simp only [iB]; rw [h3 rfl,h1 x (by simp [pF.opds])]
 | build z ps =>
  simp only [iB]
  have:(ps.map fun (x:Nat × Nat × d7)=>(x.1,x.2.1,ev x.2.2)) = ps.map fun x=>(x.1,x.2.1,ev' x.2.2):=ĩ fun p hp=>by rw [h1 p.2.2 (Ú.2 ⟨p,hp,rfl⟩)]
  exact Ą (fun q=>(PC z q).map fun cs=>(V.agg cs,([]:List (Nat × Option aL)))) this
 | buildSlice e size z n ps =>
  simp only [iB]
  have e1:(ps.map fun (x:Nat × d7)=>(x.1,ev x.2)) = ps.map fun x=>(x.1,ev' x.2):=ĩ fun p hp=>by rw [h1 p.2 (Ú.2 ⟨p,hp,rfl⟩)]
  have e2:pN bl size (List.replicate n z) (ps.map fun (x:Nat × d7)=>(x.1,ev x.2)) = pN bl' size (List.replicate n z) (ps.map fun (x:Nat × d7)=>(x.1,ev x.2)):=QH size _ _ fun p hp id hid=>by
   obtain ⟨q,hq,rfl⟩:=Ú.1 hp
   exact h2' q.2 (Ú.2 ⟨q,hq,rfl⟩) id hid
  have e3:(ps.flatMap fun (x:Nat × d7)=>CI bl (ev x.2)) = ps.flatMap fun x=>CI bl' (ev' x.2):=gK fun p hp=>by
   rw [DV (h2' p.2 (Ú.2 ⟨p,hp,rfl⟩)),h1 p.2 (Ú.2 ⟨p,hp,rfl⟩)]
  rw [h3 rfl]
  have e4:=e2.trans (Ą (pN bl' size (List.replicate n z)) e1)
  cases bl' site with
  | some _=>rfl
  | none =>
   show (match pN bl size (List.replicate n z) (ps.map fun (x:Nat × d7)=>(x.1,ev x.2)) with
    | some rows=>some (V.own site 0,(site,some (aL.rows 0 e size rows)) :: ps.flatMap fun (x:Nat × d7)=>CI bl (ev x.2))
    | none=>none) = _
   rw [e4,e3]
   rfl
 | load size g x =>
  have e1:=h1 x (by simp [pF.opds])
  have e2:=one x (by simp [pF.peeks])
  simp only [iB]
  rw [← e1]
  cases hx:ev x <;> first | rfl | (rename_i y; cases y <;> rfl) | (dsimp only; rw [e2 _ (by rw [hx]; simp [V.ids1])])
 | store size x v =>
  have e1:=h1 x (by simp [pF.opds])
  have e2:=one x (by simp [pF.peeks])
  have e3:=h1 v (by simp [pF.opds])
  have e4:=h2' v (by simp [pF.deeps])
  simp only [iB]
  rw [← e1,← e3,V8 e4,DV e4]
  cases hx:ev x <;> first | rfl | (rename_i y; cases y <;> rfl) | (dsimp only; rw [e2 _ (by rw [hx]; simp [V.ids1])])
 | nilCheck x =>
  have e1:=h1 x (by simp [pF.opds])
  have e2:=one x (by simp [pF.peeks])
  simp only [iB]
  rw [← e1]
  cases hx:ev x <;> first | rfl | (rename_i y; cases y <;> rfl) | (dsimp only; rw [e2 _ (by rw [hx]; simp [V.ids1])])
 | bin c op x y=>simp only [iB]; rw [h1 x (by simp [pF.opds]),h1 y (by simp [pF.opds])]
 | eqS ks neg x y=>simp only [iB]; rw [h1 x (by simp [pF.opds]),h1 y (by simp [pF.opds])]
 | un op x=>simp only [iB]; rw [h1 x (by simp [pF.opds])]
 | slice size x lo hi =>
  have e1:=h1 x (by simp [pF.opds])
  have e2:=one x (by simp [pF.peeks])
  have e3:lo.map ev = lo.map ev':=by cases lo with | none=>rfl | some y=>simp [h1 y (by simp [pF.opds])]
  have e4:hi.map ev = hi.map ev':=by cases hi with | none=>rfl | some y=>simp [h1 y (by simp [pF.opds])]
  simp only [iB]
  rw [← e1,← e3,← e4,aB8 e2]
 | lend f args t =>
  have e0:args.map ev = args.map ev':=ĩ fun x hx=>h1 x hx
  have hd2:∀ v ∈ args.map ev,∀ id ∈ v.dids bl,bl id = bl' id:=fun v hv id hid=>by
   obtain ⟨x,hx,rfl⟩:=Ú.1 hv
   exact h2' x hx id hid
  simp only [iB]
  rw [← e0]
  generalize args.map ev = vs at hd2
  rw [← WM t vs hd2 0,← UP t vs hd2 0]
  cases hv:vs[t]? with
  | none=>rfl
  | some v=>cases v with
   | own id ver =>
    dsimp only
    rw [hd2 _ (Î hv) id (by simp [V.dids,V.dids1,V.ids1])]
   | _=>rfl
 | fieldAddr off x =>
  have e1:=h1 x (by simp [pF.opds])
  have e2:=one x (by simp [pF.peeks])
  simp only [iB]
  rw [← e1]
  cases hx:ev x <;> first | rfl | (rename_i y; cases y <;> rfl) | (dsimp only; rw [e2 _ (by rw [hx]; simp [V.ids1])])
 | indexAddr size x i =>
  have e1:=h1 x (by simp [pF.opds])
  have e2:=one x (by simp [pF.peeks])
  have e3:=h1 i (by simp [pF.opds])
  simp only [iB]
  rw [← e1,← e3]
  cases hx:ev x <;> first | rfl | (rename_i y; cases y <;> rfl) | (dsimp only; rw [e2 _ (by rw [hx]; simp [V.ids1])])
 | len x =>
  simp only [iB]; rw [yO (one x (by simp [pF.peeks])),h1 x (by simp [pF.opds])]
 | append e size bytes x y =>
  have e1:=h1 x (by simp [pF.opds])
  have e2:=one x (by simp [pF.peeks])
  simp only [iB]
  rw [yO (one y (by simp [pF.peeks])),← e1,← h1 y (by simp [pF.opds]),h3 rfl]
  cases hx:ev x <;> first | rfl | (dsimp only; rw [e2 _ (by rw [hx]; simp [V.ids1])])
 | makeSlice e size bytes z l c=>simp only [iB]; rw [h3 rfl,h1 l (by simp [pF.opds]),h1 c (by simp [pF.opds])]
 | min l=>simp only [iB]; rw [show l.map ev = l.map ev' from ĩ (fun x hx=>h1 x hx)]
 | extract x i=>simp only [iB]; rw [h1 x (by simp [pF.opds])]
 | call f args =>
  simp only [iB]
  have e1:aM (fun x=>lG bl (ev x)) args = aM (fun x=>lG bl' (ev' x)) args:=mM fun x hx=>by
   rw [BH (h2' x hx),h1 x hx]
  have e2:(args.flatMap fun x=>CI bl (ev x)) = args.flatMap fun x=>CI bl' (ev' x):=gK fun x hx=>by
   rw [DV (h2' x hx),h1 x hx]
  rw [e1,e2]
  simp only [h5 rfl]
 | calln f args =>
  simp only [iB]
  have e1:aM (fun x=>lG bl (ev x)) args = aM (fun x=>lG bl' (ev' x)) args:=mM fun x hx=>by
   rw [BH (h2' x hx),h1 x hx]
  rw [e1]
  simp only [h5 rfl]
 | mkfn f caps =>
  simp only [iB]
  have d1:∀ x ∈ caps,∀ id ∈ (ev x).dids1 bl,bl id = bl' id:=fun x hx id hid=>h2' x hx id (S3 id hid)
  have e1:aM (fun x=>pE bl (ev x)) caps = aM (fun x=>pE bl' (ev' x)) caps:=mM fun x hx=>by
   rw [LH (d1 x hx),h1 x hx]
  have e2:(caps.flatMap fun x=>JF bl (ev x)) = caps.flatMap fun x=>JF bl' (ev' x):=gK fun x hx=>by
   rw [DU (d1 x hx),h1 x hx]
  rw [e1,e2]
 | mkfnv f caps =>
  simp only [iB]
  have e0:caps.map ev = caps.map ev':=ĩ fun x hx=>h1 x hx
  have e1:(caps.map ev).all (VD bl) = (caps.map ev').all (VD bl'):=by
   rw [← e0]
   rw [Ł,Ó,Ó]
   have key:∀ y ∈ caps.map ev,VD bl y = VD bl' y:=fun y hy=>by
    obtain ⟨x,hx,rfl⟩:=Ú.1 hy
    exact aE0 fun id hid=>h2 x hx id hid
   exact ⟨fun q y hy=>(key y hy).symm.trans (q y hy),fun q y hy=>(key y hy).trans (q y hy)⟩
  rw [e1,e0]
 | callv g args =>
  simp only [iB]
  have e1:aM (fun x=>lG bl (ev x)) args = aM (fun x=>lG bl' (ev' x)) args:=mM fun x hx=>by
   rw [BH (h2' x hx),h1 x (Õ _ hx)]
  have e2:(args.flatMap fun x=>CI bl (ev x)) = args.flatMap fun x=>CI bl' (ev' x):=gK fun x hx=>by
   rw [DV (h2' x hx),h1 x (Õ _ hx)]
  rw [e1,e2,h1 g (à ..)]
  simp only [h5 rfl]
theorem aEj {C:Nat->List D->Option D} {site:Nat} {v:V} {wr:List (Nat × Option aL)} (so:pF) (h1:∀ x ∈ so.opds,ev x = ev' x) (h2:∀ x ∈ so.peeks,∀ id ∈ (ev x).ids,bl id = bl' id) (h2' : ∀ x ∈ so.deeps,∀ id ∈ (ev x).dids bl,bl id = bl' id) (h3:so.new = true->bl site = bl' site)
  (h4:∀ p ∈ wr,bl p.1 = bl' p.1) (hs:iB C site ev bl so = some (v,wr)):iB C site ev' bl' so = some (v,wr):=by
 cases hc:so.isCall with
 | false=>exact (UV so (fun e=>by rw [hc] at e; cases e) h1 h2 h2' h3).symm.trans hs
 | true =>
  cases so with
  | call f args =>
   simp only [iB] at hs ⊢
   have e1:aM (fun x=>lG bl (ev x)) args = aM (fun x=>lG bl' (ev' x)) args:=mM fun x hx=>by
    rw [BH (h2' x hx),h1 x hx]
   have e2:(args.flatMap fun x=>CI bl (ev x)) = args.flatMap fun x=>CI bl' (ev' x):=gK fun x hx=>by
    rw [DV (h2' x hx),h1 x hx]
   rw [e1,e2] at hs
   split at hs
   ·cases hs
   ·split at hs
    ·cases hs
    ·exact JM h4 hs
  | calln f args =>
   simp only [iB] at hs ⊢
   have e1:aM (fun x=>lG bl (ev x)) args = aM (fun x=>lG bl' (ev' x)) args:=mM fun x hx=>by
    rw [BH (h2' x hx),h1 x hx]
   rw [e1] at hs
   split at hs
   ·cases hs
   ·split at hs
    ·split at hs
     ·rename_i hn
      rw [Á hn]
      exact JM h4 hs
     ·cases hs
    ·cases hs
  | callv g args =>
   simp only [iB] at hs ⊢
   have e1:aM (fun x=>lG bl (ev x)) args = aM (fun x=>lG bl' (ev' x)) args:=mM fun x hx=>by
    rw [BH (h2' x hx),h1 x (Õ _ hx)]
   have e2:(args.flatMap fun x=>CI bl (ev x)) = args.flatMap fun x=>CI bl' (ev' x):=gK fun x hx=>by
    rw [DV (h2' x hx),h1 x (Õ _ hx)]
   rw [e1,e2,h1 g (à ..)] at hs
   split at hs
   ·split at hs
    ·cases hs
    ·split at hs
     ·cases hs
     ·exact JM h4 hs
   ·cases hs
  | _=>cases hc
end
end Vm
end
section
namespace Vm
open Go.RowKit
abbrev Fn:=(Nat->V) × (Nat->Option aL)
abbrev Fp:=List Nat × List Nat
def DO (o:aS) (fr:Nat->V) (bl:Nat->Option aL) (wr:List (Nat × Option aL)):Fp:=((if o.op.new = true then [o.site] else []) ++ ((o.op.peeks.flatMap fun x=>(cZ fr x).ids) ++ o.op.deeps.flatMap fun x=>(cZ fr x).dids bl),wr.map (·.1))
theorem aFU {o:pF} {x:d7} (h:x ∈ o.peeks):x ∈ o.opds:=by
 cases o <;> simp only [pF.peeks,pF.opds,Ô,ê,List.not_mem_nil,or_false] at h ⊢ <;> first | (exact h.elim) | (exact .inl h) | (exact h) | skip
theorem aFj {o:pF} {x:d7} (h:x ∈ o.deeps):x ∈ o.opds:=by
 cases o <;> simp only [pF.deeps,pF.opds,Ô,ê,List.not_mem_nil,or_false] at h ⊢ <;> first | (exact h.elim) | (exact .inr h) | (exact h) | skip
theorem aGM {o:aS} {fr fr' : Nat->V} {bl:Nat->Option aL} {wr:List (Nat × Option aL)} (h:∀ x ∈ o.op.opds,cZ fr x = cZ fr' x):DO o fr bl wr = DO o fr' bl wr:=by
 simp only [DO]
 rw [gK (l:=o.op.peeks) fun z hz=>by rw [h z (aFU hz)],gK (l:=o.op.deeps) fun z hz=>by rw [h z (aFj hz)]]
theorem aQq {o:aS} {fr:Nat->V} {bl bl' : Nat->Option aL} {wr:List (Nat × Option aL)} (h:∀ i ∈ (DO o fr bl wr).1,bl i = bl' i):DO o fr bl wr = DO o fr bl' wr:=by
 have h' : ∀ x ∈ o.op.deeps,∀ id ∈ (cZ fr x).dids bl,bl id = bl' id:=fun x hx id hid=>h id (Ê.2 (.inr (Ê.2 (.inr (Ð.2 ⟨x,hx,hid⟩)))))
 simp only [DO]
 rw [gK (l:=o.op.deeps) fun z hz=>aFe fun id hid=>h' z hz id (aMi id hid)]
theorem aKo {C:Nat->List D->Option D} {o:aS} {fr fr' : Nat->V} {bl bl' : Nat->Option aL} {v:V} {wr:List (Nat × Option aL)} (h1:∀ x ∈ o.op.opds,cZ fr x = cZ fr' x) (h:∀ i ∈ (DO o fr bl wr).1,bl i = bl' i) (h4:∀ p ∈ wr,bl p.1 = bl' p.1) (hs:iB C o.site (cZ fr) bl o.op = some (v,wr)):iB C o.site (cZ fr') bl' o.op = some (v,wr) :=
 aEj o.op h1 (fun x hx id hid=>h id (Ê.2 (.inr (Ê.2 (.inl (Ð.2 ⟨x,hx,hid⟩))))))
  (fun x hx id hid=>h id (Ê.2 (.inr (Ê.2 (.inr (Ð.2 ⟨x,hx,hid⟩))))))
  (fun hn=>h _ (Ê.2 (.inl (by rw [Á hn]; simp)))) h4 hs
def NK (C:Nat->List D->Option D) (o:aS) (s:Fn):Option (Fn × Fp):=match o.wants s.1 with
 | .run=>match iB C o.site (cZ s.1) s.2 o.op with
  | some (v,wr)=>some ((jP s.1 o.dst v,cC s.2 wr),DO o s.1 s.2 wr)
  | none=>none
 | .skip=>some ((jP s.1 o.dst (.tup []),s.2),([],[]))
 | .bad=>none
def aS.looks (o:aS):List Nat:=(o.op.opds.filterMap fun x=>match x with | .t n=>some n | .c _=>none) ++ (match o.guard with | some (t,_)=>[t] | none=>[])
def ind (x y:aS) (p q:Fp):Bool :=
 (match x.dst with | some d=>!(y.looks.contains d) && y.dst != some d | none=>true) && (match y.dst with | some d=>!(x.looks.contains d) | none=>true) &&
 p.2.all (fun i=>!(q.1.contains i) && !(q.2.contains i)) && q.2.all (fun i=>!(p.1.contains i))
theorem XI {fr:Nat->V} {dst:Option Nat} {v:V} {x:d7} {l:List Nat} (h:∀ n,x = .t n->n ∈ l) (hd:∀ d,dst = some d->d ∉ l):cZ (jP fr dst v) x = cZ fr x:=by
 cases x with
 | c u=>rfl
 | t n =>
  simp only [cZ,jP]
  rw [Ã]
  intro e
  exact hd n e (h n rfl)
theorem LO {o:aS} {x:d7} (hx:x ∈ o.op.opds) {n:Nat} (e:x = .t n):n ∈ o.looks:=by
 subst e
 exact Ê.2 (.inl (List.mem_filterMap.2 ⟨_,hx,rfl⟩))
theorem FZ {o:aS} {fr:Nat->V} {dst:Option Nat} {v:V} (hd:∀ d,dst = some d->d ∉ o.looks):o.wants (jP fr dst v) = o.wants fr:=by
 unfold aS.wants
 cases hg:o.guard with
 | none=>rfl
 | some p =>
  obtain ⟨t,b⟩:=p
  have:jP fr dst v t = fr t:=by
   simp only [jP]
   rw [Ã]
   intro e
   exact hd t e (Ê.2 (.inr (by rw [hg]; simp)))
  simp only [this]
theorem A1 {bl:Nat->Option aL} {wr:List (Nat × Option aL)} {i:Nat} (h:i ∉ wr.map (·.1)):cC bl wr i = bl i:=by
 unfold cC
 rcases E8 wr (bl i) i with q | ⟨p,q1,q2,q3⟩
 ·exact q
 ·exact absurd (Ú.2 ⟨p,q1,q2⟩) h
theorem aG7 {bl bl' : Nat->Option aL} {wr:List (Nat × Option aL)} {i:Nat} (h:i ∈ wr.map (·.1)):cC bl wr i = cC bl' wr i:=by
 induction wr with
 | nil=>simp at h
 | cons p r ih =>
  obtain ⟨k,b⟩:=p
  simp only [cC,lk]
  by_cases e:i = k
  ·rw [Á e,Á e]
  ·rw [Ã e,Ã e]
   exact ih (by simpa [e] using h)
theorem QN (fr:Nat->V) {d e:Option Nat} (u v:V) (h:∀ x,d = some x->e ≠ some x):jP (jP fr d u) e v = jP (jP fr e v) d u:=by
 funext t
 simp only [jP]
 by_cases h1:e = some t
 ·have h2:d ≠ some t:=fun h2=>h t h2 h1
  rw [Á h1,Ã h2,Á h1]
 ·rw [Ã h1,Ã h1]
theorem aHY (bl:Nat->Option aL) (wi wj:List (Nat × Option aL)) (h:∀ i ∈ wi.map (·.1),i ∉ wj.map (·.1)):cC (cC bl wi) wj = cC (cC bl wj) wi:=by
 funext i
 by_cases hi:i ∈ wi.map (·.1)
 ·have hj:=h i hi
  rw [A1 hj]
  exact aG7 hi
 ·rw [A1 (bl:=cC bl wj) hi]
  by_cases hj:i ∈ wj.map (·.1)
  ·exact aG7 hj
  ·rw [A1 hj,A1 hj,A1 hi]
theorem swap {C:Nat->List D->Option D} {x y:aS} {s s1 s2:Fn} {p q:Fp} (h1:NK C x s = some (s1,p)) (h2:NK C y s1 = some (s2,q)) (hi:ind x y p q = true) :
  ∃ s1',NK C y s = some (s1',q) ∧ NK C x s1' = some (s2,p):=by
 obtain ⟨fr,bl⟩:=s
 simp only [ind,Ø] at hi
 obtain ⟨⟨⟨i1,i2⟩,i3⟩,i4⟩:=hi
 have dx:∀ d,x.dst = some d->d ∉ y.looks ∧ y.dst ≠ some d:=by
  intro d e
  rw [e] at i1
  simp only [Ø,Ň,bne_iff_ne,ne_eq] at i1
  exact ⟨fun hm=>by simp [hm] at i1,i1.2⟩
 have dy:∀ d,y.dst = some d->d ∉ x.looks:=by
  intro d e
  rw [e] at i2
  intro hm
  simp [hm] at i2
 -- the first step
 simp only [NK] at h1
 -- by the guard of x
 cases hwx:x.wants fr with
 | bad=>rw [hwx] at h1; cases h1
 | skip =>
  rw [hwx] at h1
  cases h1
  simp only [NK,FZ (fun d e=>(dx d e).1)] at h2 ⊢
  cases hwy:y.wants fr with
  | bad=>rw [hwy] at h2; cases h2
  | skip =>
   rw [hwy] at h2
   cases h2
   refine ⟨_,rfl,?_⟩
   simp only [FZ dy,hwx]
   rw [QN fr (.tup []) (.tup []) (fun d e=>(dx d e).2)]
  | run =>
   rw [hwy] at h2
   simp only at h2 ⊢
   have hev:∀ z ∈ y.op.opds,cZ (jP fr x.dst (.tup [])) z = cZ fr z:=fun z hz=>XI (l:=y.looks) (fun n e=>LO hz e) (fun d e=>(dx d e).1)
   have hloc:iB C y.site (cZ (jP fr x.dst (.tup []))) bl y.op = iB C y.site (cZ fr) bl y.op:=UV y.op (fun _ _ _=>rfl) hev (fun _ _ _ _=>rfl) (fun _ _ _ _=>rfl) (fun _=>rfl)
   have hfp:∀ wr,DO y (jP fr x.dst (.tup [])) bl wr = DO y fr bl wr:=fun wr=>aGM hev
   rw [hloc] at h2
   cases ha:iB C y.site (cZ fr) bl y.op with
   | none=>rw [ha] at h2; cases h2
   | some r =>
    obtain ⟨v,wr⟩:=r
    rw [ha] at h2
    simp only [hfp] at h2
    cases h2
    refine ⟨_,rfl,?_⟩
    simp only [FZ dy,hwx]
    rw [QN fr (.tup []) v (fun d e=>(dx d e).2)]
 | run =>
  rw [hwx] at h1
  simp only at h1
  cases hax:iB C x.site (cZ fr) bl x.op with
  | none=>rw [hax] at h1; cases h1
  | some rx =>
   obtain ⟨vx,wx⟩:=rx
   rw [hax] at h1
   cases h1
   simp only [NK,FZ (fun d e=>(dx d e).1)] at h2 ⊢
   cases hwy:y.wants fr with
   | bad=>rw [hwy] at h2; cases h2
   | skip =>
    rw [hwy] at h2
    cases h2
    refine ⟨_,rfl,?_⟩
    simp only [FZ dy,hwx]
    have hev:∀ z ∈ x.op.opds,cZ (jP fr y.dst (.tup [])) z = cZ fr z:=fun z hz=>XI (l:=x.looks) (fun n e=>LO hz e) dy
    have hloc:iB C x.site (cZ (jP fr y.dst (.tup []))) bl x.op = iB C x.site (cZ fr) bl x.op:=UV x.op (fun _ _ _=>rfl) hev (fun _ _ _ _=>rfl) (fun _ _ _ _=>rfl) (fun _=>rfl)
    rw [hloc,hax]
    have hfp:DO x (jP fr y.dst (.tup [])) bl wx = DO x fr bl wx:=aGM hev
    simp only [hfp]
    rw [QN fr vx (.tup []) (fun d e=>(dx d e).2)]
   | run =>
    rw [hwy] at h2
    simp only at h2 ⊢
    cases hay:iB C y.site (cZ (jP fr x.dst vx)) (cC bl wx) y.op with
    | none=>rw [hay] at h2; cases h2
    | some ry =>
     obtain ⟨vy,wy⟩:=ry
     rw [hay] at h2
     have hevy:∀ z ∈ y.op.opds,cZ (jP fr x.dst vx) z = cZ fr z:=fun z hz=>XI (l:=y.looks) (fun n e=>LO hz e) (fun d e=>(dx d e).1)
     have hevx:∀ z ∈ x.op.opds,cZ (jP fr y.dst vy) z = cZ fr z:=fun z hz=>XI (l:=x.looks) (fun n e=>LO hz e) dy
     have hfpy:DO y (jP fr x.dst vx) (cC bl wx) wy = DO y fr (cC bl wx) wy:=aGM hevy
     simp only [hfpy] at h2
     cases h2
     -- what y reads x does not write
     have j3:∀ i ∈ wx.map (·.1),i ∉ (DO y fr (cC bl wx) wy).1 ∧ i ∉ (DO y fr (cC bl wx) wy).2:=by
      intro i hi
      have:=Ó.1 i3 i hi
      simp only [Ø,Ň] at this
      exact ⟨fun hm=>by simp [hm] at this,fun hm=>by simp [hm] at this⟩
     have j4:∀ i ∈ wy.map (·.1),i ∉ (DO x fr bl wx).1:=by
      intro i hi hm
      have:=Ó.1 i4 i hi
      simp [hm] at this
     have hby:∀ i ∈ (DO y fr (cC bl wx) wy).1,cC bl wx i = bl i:=fun i hi=>A1 fun hm=>(j3 i hm).1 hi
     have hbx:∀ i ∈ (DO x fr bl wx).1,bl i = cC bl wy i:=fun i hi=>(A1 fun hm=>j4 i hm hi).symm
     have hay:iB C y.site (cZ fr) bl y.op = some (vy,wy):=aKo (wr:=wy) hevy (by rw [hfpy]; exact hby) (fun p hp=>A1 fun hm=>(j3 p.1 hm).2 (Ú.2 ⟨p,hp,rfl⟩)) hay
     rw [hay]
     rw [aQq hby]
     refine ⟨_,rfl,?_⟩
     simp only [FZ dy,hwx]
     have hlocx:iB C x.site (cZ (jP fr y.dst vy)) (cC bl wy) x.op = some (vx,wx):=aKo (wr:=wx) (fun z hz=>(hevx z hz).symm) hbx (fun p hp=>(A1 fun hm=>(j3 p.1 (Ú.2 ⟨p,hp,rfl⟩)).2 hm).symm) hax
     rw [hlocx]
     have hfpx:DO x (jP fr y.dst vy) (cC bl wy) wx = DO x fr bl wx:=(aGM hevx).trans (aQq hbx).symm
     simp only [hfpx]
     rw [QN fr vx vy (fun d e=>(dx d e).2),aHY bl wx wy fun i hi=>(j3 i hi).2]
def DJ (C:Nat->List D->Option D) (l:List aS) (fp:Nat->Fp):List Nat->Fn->Fn->Prop
 | [],s,s'=>s = s'
 | i :: L,s,s'=>∃ o s1,l[i]? = some o ∧ NK C o s = some (s1,fp i) ∧ DJ C l fp L s1 s'
def Ind (l:List aS) (fp:Nat->Fp) (j i:Nat):Prop:=∀ x y,l[j]? = some x->l[i]? = some y->ind x y (fp j) (fp i) = true
theorem DJ.bring {C:Nat->List D->Option D} {l:List aS} {fp:Nat->Fp} {i:Nat} {B:List Nat}:∀ {A:List Nat} {s s' : Fn},DJ C l fp (A ++ i :: B) s s'->(∀ j ∈ A,Ind l fp j i)->DJ C l fp (i :: (A ++ B)) s s'
 | [],s,s',h,_=>h
 | j :: A,s,s',⟨o,s1,ho,hs,hr⟩,hi=>by
  obtain ⟨oi,s2,ho2,hs2,hr2⟩:=DJ.bring hr fun k hk=>hi k (by simp [hk])
  obtain ⟨s1',g1,g2⟩:=swap hs hs2 (hi j (by simp) o oi ho ho2)
  exact ⟨oi,s1',ho2,g1,o,s2,ho,g2,hr2⟩
end Vm
end
section
namespace Vm
open Go.RowKit
def mN (C:Nat->List D->Option D) (o:aS) (s:St):Option (St × Fp) :=
 match o.wants s.get with
 | .run=>match iB C o.site (cZ s.get) s.blk o.op with
  | some (v,wr)=>some (s.put o.dst v wr,DO o s.get s.blk wr)
  | none=>none
 | .skip=>some (s.put o.dst (.tup []) [],([],[]))
 | .bad=>none
def lN (C:Nat->List D->Option D):List aS->St->Option (St × List Fp)
 | [],s=>some (s,[])
 | o :: r,s=>match mN C o s with
  | some (s',p)=>match lN C r s' with
   | some (s'',ps)=>some (s'',p :: ps)
   | none=>none
  | none=>none
def TH (ops:List aS) (ps:List Fp) (pairs:List (Nat × Nat)):Bool:=pairs.all fun (i,j)=>match ops[i]?,ops[j]?,ps[i]?,ps[j]? with
 | some x,some y,some p,some q=>ind x y p q
 | _,_,_,_=>false
def iX (C:Nat->List D->Option D) (ops:List aS) (draw:Option (List (Nat × Nat))) (s:St):Option St:=match draw with
 | none=>lA C ops s
 | some pairs=>match lN C ops s with
  | some (s',ps)=>if TH ops ps pairs then some s' else none
  | none=>none
theorem aAQ {α:Type}:∀ (l m:List (Nat × α)) (d:α) (t:Nat),lk (l ++ m) d t = lk l (lk m d t) t
 | [],m,d,t=>rfl
 | (k,v) :: l,m,d,t=>by simp only [ą,lk]; rw [aAQ l m d t]
def St.fn (s:St):Fn:=(s.get,s.blk)
theorem aJV (s:St) (dst:Option Nat) (v:V) (wr:List (Nat × Option aL)):(s.put dst v wr).fn = (jP s.get dst v,cC s.blk wr):=by
 unfold St.fn
 congr 1
 ·funext t
  cases dst with
  | none=>simp [St.get,St.put,jP]
  | some d =>
   simp only [St.get,St.put,jP,lk,Å]
   by_cases e:t = d
   ·rw [Á e,Á e.symm]
   ·rw [Ã e,Ã fun h=>e h.symm]
 ·funext i
  simp only [St.blk,St.put,cC,aAQ]
theorem aCt {C:Nat->List D->Option D} {o:aS} {s s' : St} {p:Fp} (e:mN C o s = some (s',p)):NK C o s.fn = some (s'.fn,p):=by
 unfold mN at e
 unfold NK
 have e1:s.fn.1 = s.get:=rfl
 have e2:s.fn.2 = s.blk:=rfl
 rw [e1,e2]
 cases hw:o.wants s.get with
 | bad=>rw [hw] at e; cases e
 | skip =>
  rw [hw] at e
  cases e
  rw [aJV]
  rfl
 | run =>
  rw [hw] at e
  simp only at e ⊢
  cases ha:iB C o.site (cZ s.get) s.blk o.op with
  | none=>rw [ha] at e; cases e
  | some r =>
   obtain ⟨v,wr⟩:=r
   rw [ha] at e
   cases e
   simp only
   rw [aJV]
theorem aOM {C:Nat->List D->Option D} {o:aS} {s s' : St} (e:EW C o s = some s'):∃ p,mN C o s = some (s',p):=by
 unfold EW at e
 unfold mN
 cases hw:o.wants s.get with
 | bad=>rw [hw] at e; cases e
 | skip=>rw [hw] at e; cases e; exact ⟨_,rfl⟩
 | run =>
  rw [hw] at e
  simp only at e ⊢
  cases ha:iB C o.site (cZ s.get) s.blk o.op with
  | none=>rw [ha] at e; cases e
  | some r =>
   obtain ⟨v,wr⟩:=r
   rw [ha] at e
   cases e
   exact ⟨_,rfl⟩
theorem P4 {C:Nat->List D->Option D}:∀ {l:List aS} {s s' : St},lA C l s = some s'->∃ ps,lN C l s = some (s',ps)
 | [],s,s',e=>by simp only [lA,Å] at e; subst e; exact ⟨[],rfl⟩
 | o :: l,s,s',e=>by
  simp only [lA] at e
  split at e
  ·rename_i s1 h1
   obtain ⟨p,hp⟩:=aOM h1
   obtain ⟨ps,hps⟩:=P4 e
   exact ⟨p :: ps,by simp only [lN,hp,hps]⟩
  ·cases e
theorem PS {C:Nat->List D->Option D}:∀ {l:List aS} {s s' : St} {ps:List Fp},lN C l s = some (s',ps)->ps.length = l.length
 | [],s,s',ps,e=>by simp only [lN,Å,Ĕ] at e; rw [← e.2]; rfl
 | o :: l,s,s',ps,e=>by
  simp only [lN] at e
  split at e
  ·split at e
   ·rename_i h2
    cases e
    simp [PS h2]
   ·cases e
  ·cases e
theorem uD {C:Nat->List D->Option D} (L:List aS) (fp:Nat->Fp):∀ {l:List aS} {k:Nat} {s s' : St} {ps:List Fp},(∀ i,l[i]? = L[k + i]?)->(∀ i,i < l.length->fp (k + i) = ps.getD i ([],[]))->lN C l s = some (s',ps)->DJ C L fp ((List.range l.length).map (k + ·)) s.fn s'.fn
 | [],k,s,s',ps,_,_,e=>by simp only [lN,Å,Ĕ] at e; rw [← e.1]; rfl
 | o :: l,k,s,s',ps,hl,hf,e=>by
  simp only [lN] at e
  split at e
  ·rename_i s1 p h1
   split at e
   ·rename_i s2 ps' h2
    cases e
    rw [ï,List.range_succ_eq_map,ø,List.map_map]
    refine ⟨o,s1.fn,by have:=hl 0; simpa using this.symm,?_,?_⟩
    ·have:=hf 0 (by simp)
     simp only [List.getD_cons_zero,ď] at this ⊢
     rw [this]
     exact aCt h1
    ·have:=uD L fp (k:=k + 1) (fun i=>by have:=hl (i + 1); simpa [ğ,ŉ 1 i] using this) (fun i hi=>by
      have:=hf (i + 1) (by simp; omega)
      rw [show k + 1 + i = k + (i + 1) by omega]
      simpa using this) h2
     have e2:((k + ·) ∘ Nat.succ) = (k + 1 + ·):=by funext i; simp; omega
     rw [e2]
     exact this
   ·cases e
  ·cases e
section
variable {P:Program} {nt:Nat} {w0:c8} {w:World} {h0 h:Hp} {fr:Nat->V} {bl:Nat->Option aL} {a:Act} {hd:Nat->Value} {C:Nat->List D->Option D}
theorem aIe {v:V} {b:Bool} (e:EF v b = .run):v = .d (.bool b):=by
 cases v with
 | d x=>cases x with
  | bool c=>cases c <;> cases b <;> simp [EF] at e <;> rfl
  | _=>simp [EF] at e
 | tup vs=>cases vs <;> simp [EF] at e
 | _=>simp [EF] at e
theorem aFL {v:V} {b:Bool} (e:EF v b = .skip):(∃ c,v = .d (.bool c) ∧ c ≠ b) ∨ v = .tup []:=by
 cases v with
 | d x=>cases x with
  | bool c=>exact .inl ⟨c,rfl,by rintro rfl; cases c <;> simp [EF] at e⟩
  | _=>simp [EF] at e
 | tup vs=>cases vs with
  | nil=>exact .inr rfl
  | cons x l=>simp [EF] at e
 | _=>simp [EF] at e
theorem aJd {h:Hp} {hd:Nat->Value} {bl:Nat->Option aL}:R3 h hd bl undef (.tup []):=⟨#[],rfl,rfl,fun j x hx=>by simp at hx⟩
theorem aEg (r:Rl nt w0 h0 fr bl a w h hd) {ops:Array Oper} {o:Oper} {so:aS} (hlow:sN P nt ops o = some so) (hF:∀ d,o.dst = some d->w0.F d = none) :
  so.op = GN P o ∧ so.dst = o.dst ∧ UQ nt w0 o.dst ∧ (so.wants fr = .run->Region.wanted o (yielded ops a.tmps) = true) ∧ (so.wants fr = .skip->Region.wanted o (yielded ops a.tmps) = false):=by
 unfold sN at hlow
 ·split at hlow
  ·rename_i hd
   have hdst:UQ nt w0 o.dst:=fun d e=>⟨by rw [e] at hd; simpa [aQo] using hd,hF d e⟩
   split at hlow
   ·rename_i hg
    cases hlow
    exact ⟨rfl,rfl,hdst,fun _=>by simp [Region.wanted,hg],fun h=>by simp [aS.wants] at h⟩
   ·rename_i j b hg
    split at hlow
    ·rename_i t ht
     cases hlow
     have hy:∀ c,fr t = .d (.bool c)->yielded ops a.tmps j = some c:=by
      intro c hc
      have:=r.frame t
      rw [hc] at this
      have hv:=mZ this
      have:a.tmps[t]? = some (.bool c):=by
       simp only [Ì] at hv
       cases hq:a.tmps[t]? with
       | none=>rw [hq] at hv; cases hv
       | some u=>rw [hq] at hv; simpa using hv
      simp [yielded,ht,this]
     refine ⟨rfl,rfl,hdst,fun hw=>?_,fun hw=>?_⟩
     ·simp only [aS.wants] at hw
      simp [Region.wanted,hg,hy _ (aIe hw)]
     ·simp only [aS.wants] at hw
      rcases aFL hw with ⟨c,hc,hne⟩ | hu
      ·simp [Region.wanted,hg,hy _ hc,hne]
      ·have h3:=r.frame t
       rw [hu] at h3
       obtain ⟨arr,e1,e2,_⟩:=h3
       have e3:arr = #[]:=by simpa using e2
       have hn:yielded ops a.tmps j = none:=by
        simp only [yielded,ht,À]
        cases hq:a.tmps[t]? with
        | none=>rfl
        | some u =>
         have:u = .tuple #[]:=by
          simp only [Ì,hq,ī] at e1
          rw [e1,e3]
         subst this
         rfl
       simp [Region.wanted,hg,hn]
    ·cases hlow
  ·cases hlow
def aAg (w0:c8) (ops:Array Oper):Prop:=∀ o ∈ ops.toList,∀ d,o.dst = some d->w0.F d = none
theorem aFC (so:aS) (fr:Nat->V):so.bare.wants fr = so.wants fr:=rfl
theorem aBE (hC:vV P C) (r:Rl nt w0 h0 fr bl a w h hd) {ops:Array Oper} {i:Nat} {o:Oper} {so:aS} (hF:aAg w0 ops) (ho:ops[i]? = some o) (hlow:sN P nt ops o = some so.bare) {s' : Fn} {p:Fp} (hs:NK C so (fr,bl) = some (s',p))
  {K:Act->World->Prop} {Q:Exit->Act->World->Prop} (hK:∀ a' w' h' hd',Rl nt w0 h0 s'.1 s'.2 a' w' h' hd'->K a' w'):wpOp P ops Q i K a w:=by
 obtain ⟨g1,g2,g3,g4,g5⟩:=aEg r hlow (hF o (by have:=ō ho; simpa using this))
 rw [aFC] at g4 g5
 replace g2:so.dst = o.dst:=g2
 unfold wpOp
 rw [ho]
 simp only
 simp only [NK] at hs
 cases hw:so.wants fr with
 | bad=>rw [hw] at hs; cases hs
 | skip =>
  rw [hw] at hs
  rw [Ã (by rw [g5 hw]; simp)]
  cases hs
  refine hK _ _ h hd ?_
  rw [g2]
  exact r.put0 o.dst undef (.tup []) g3 aJd
 | run =>
  rw [hw] at hs
  rw [Á (g4 hw)]
  refine .inl ?_
  simp only at hs
  cases ha:iB C so.site (cZ fr) bl so.op with
  | none=>rw [ha] at hs; cases hs
  | some q =>
   obtain ⟨v,wr⟩:=q
   rw [ha] at hs
   cases hs
   have key:∀ a' w' h' hd',Rl nt w0 h0 (jP fr o.dst v) (cC bl wr) a' w' h' hd'->K a' w':=fun a' w' h' hd' hr=>hK a' w' h' hd' (by rw [g2]; exact hr)
   replace g1:so.op.bare = GN P o:=g1
   cases hop:so.op with
   | lend f args t=>rw [hop] at ha g1; exact aOx hC r o g1.symm g3 ha key
   | calln f args=>rw [hop] at ha g1; exact aJB hC r o g1.symm g3 ha key
   | mkfnv f caps=>rw [hop] at ha g1; exact aMo (C:=C) r o g1.symm g3 ha key
   | _ =>
    have hb:so.op.bare = so.op:=by rw [hop]; rfl
    rw [hb] at g1
    rw [g1] at ha
    exact aTA hC r o g3 ha key
theorem YX (hC:vV P C) {ops:Array Oper} {l:List aS} (hF:aAg w0 ops) (hlow:aM (sN P nt ops) ops.toList = some (l.map aS.bare)) (fp:Nat->Fp) {Q:Exit->Act->World->Prop} {s' : Fn} (hQ:∀ a' w' h' hd',Rl nt w0 h0 s'.1 s'.2 a' w' h' hd'->Q .normal a' w') :
  ∀ (L:List Nat) (s:Fn) (a:Act) (w:World) (h:Hp) (hd:Nat->Value),Rl nt w0 h0 s.1 s.2 a w h hd->DJ C l fp L s s'->wpOps P ops Q L a w
 | [],s,a,w,h,hd,r,hs=>by simp only [DJ] at hs; subst hs; exact hQ _ _ _ _ r
 | i :: L,s,a,w,h,hd,r,hs=>by
  obtain ⟨so,s1,ho,hst,hr⟩:=hs
  obtain ⟨o,q1,q2⟩:=cV hlow (show (l.map aS.bare)[i]? = some so.bare by simp [ho])
  rw [ś]
  exact aBE hC r hF (by simpa using q1) q2 hst fun a' w' h' hd' r'=>YX hC hF hlow fp hQ L s1 a' w' h' hd' r' hr
theorem UY (hC:vV P C) {ops:Array Oper} {l ext:List aS} (hF:aAg w0 ops) (hlow:aM (sN P nt ops) ops.toList = some (l.map aS.bare ++ ext)) (fp:Nat->Fp) {Q:Exit->Act->World->Prop} {s' : Fn} {rest:List Nat} (hQ:∀ a' w' h' hd',Rl nt w0 h0 s'.1 s'.2 a' w' h' hd'->wpOps P ops Q rest a' w') :
  ∀ (L:List Nat) (s:Fn) (a:Act) (w:World) (h:Hp) (hd:Nat->Value),Rl nt w0 h0 s.1 s.2 a w h hd->DJ C l fp L s s'->wpOps P ops Q (L ++ rest) a w
 | [],s,a,w,h,hd,r,hs=>by simp only [DJ] at hs; subst hs; exact hQ _ _ _ _ r
 | i :: L,s,a,w,h,hd,r,hs=>by
  obtain ⟨so,s1,ho,hst,hr⟩:=hs
  have hi:i < (l.map aS.bare).length:=by rw [È]; exact (Æ.1 ho).1
  obtain ⟨o,q1,q2⟩:=cV hlow (show (l.map aS.bare ++ ext)[i]? = some so.bare by rw [ë hi]; simp [ho])
  rw [ą,ś]
  exact aBE hC r hF (by simpa using q1) q2 hst fun a' w' h' hd' r'=>UY hC hF hlow fp hQ L s1 a' w' h' hd' r' hr
theorem VO (acc:List Nat):∀ (l:List Oper),∃ r,l.foldl (fun acc o=>acc ++ [(o.after.toList.filter (Region.binds .any)).foldl (fun s e=>s ||| 2 ^ e.on ||| acc.getD e.on 0) 0]) acc = acc ++ r ∧ r.length = l.length
 | []=>⟨[],by simp⟩
 | o :: l=>by
  obtain ⟨r,h1,h2⟩:=VO (acc ++ [(o.after.toList.filter (Region.binds .any)).foldl (fun s e=>s ||| 2 ^ e.on ||| acc.getD e.on 0) 0]) l
  exact ⟨_ :: r,by simp only [ð]; rw [h1,è]; rfl,by simp [h2]⟩
theorem aBi (acc:List Nat) (j:Nat):∀ (l:List Edge) (s:Nat),(l.foldl (fun s e=>s ||| 2 ^ e.on ||| acc.getD e.on 0) s).testBit j = true->s.testBit j = true ∨ ∃ e ∈ l,j = e.on ∨ (acc.getD e.on 0).testBit j = true
 | [],s,h=>.inl h
 | e :: l,s,h=>by
  simp only [ð] at h
  rcases aBi acc j l _ h with q | ⟨e',h1,h2⟩
  ·rw [Nat.testBit_or,Nat.testBit_or,Bool.or_eq_true,Bool.or_eq_true] at q
   rcases q with (q | q) | q
   ·exact .inl q
   ·rw [Nat.testBit_two_pow] at q
    exact .inr ⟨e,by simp,.inl (Ü q).symm⟩
   ·exact .inr ⟨e,by simp,.inr q⟩
  ·exact .inr ⟨e',by simp [h1],h2⟩
theorem aKn (l:List Oper) (hok:TI l = true) {i:Nat} {o:Oper} (ho:l[i]? = some o):∀ j,((aCZ l).getD i 0).testBit j = true->∃ e ∈ o.after,Region.binds .any e = true ∧ (j = e.on ∨ ((aCZ l).getD e.on 0).testBit j = true):=by
 have hi:i < l.length:=(Æ.1 ho).1
 have hsplit:l = l.take i ++ o :: l.drop (i + 1):=by
  have:l[i] = o:=(Æ.1 ho).2
  rw [← this]; simp
 obtain ⟨r1,g1,g2⟩:=VO [] (l.take i)
 simp only [Đ] at g1
 have hlen:r1.length = i:=by rw [g2,ç]; omega
 obtain ⟨r2,g3,g4⟩:=VO (r1 ++ [(o.after.toList.filter (Region.binds .any)).foldl (fun s e=>s ||| 2 ^ e.on ||| r1.getD e.on 0) 0]) (l.drop (i + 1))
 have hanc:aCZ l = r1 ++ [(o.after.toList.filter (Region.binds .any)).foldl (fun s e=>s ||| 2 ^ e.on ||| r1.getD e.on 0) 0] ++ r2:=by
  unfold aCZ
  rw [← g3]
  conv=>lhs; rw [hsplit]
  rw [ü,ð,g1]
 have hat:(aCZ l).getD i 0 = (o.after.toList.filter (Region.binds .any)).foldl (fun s e=>s ||| 2 ^ e.on ||| r1.getD e.on 0) 0:=by
  rw [hanc,è]
  simp [List.getD,hlen]
 intro j hj
 rw [hat] at hj
 rcases aBi r1 j _ 0 hj with q | ⟨e,he,hje⟩
 ·simp at q
 obtain ⟨he1,he2⟩:=ă.1 he
 refine ⟨e,by simpa using he1,he2,?_⟩
 rcases hje with q | q
 ·exact .inl q
 ·refine .inr ?_
  have hlt:e.on < i:=by
   have:=Ó.1 hok (o,i) (by
    rw [î]; exact ⟨i,by simp [ho]⟩)
   simp only at this
   have h3:=Ħ.1 this e (by simpa using he1)
   simpa [he2] using h3
  rw [hanc,è]
  have:r1.getD e.on 0 = (r1 ++ ([(o.after.toList.filter (Region.binds .any)).foldl (fun s e=>s ||| 2 ^ e.on ||| r1.getD e.on 0) 0] ++ r2)).getD e.on 0:=by
   simp only [Ý]
   rw [ë (by omega)]
  rw [← this]
  exact q
theorem aDY (hC:vV P C) {ops:Array Oper} {l:List aS} (hF:aAg w0 ops) (hlow:aM (sN P nt ops) ops.toList = some (l.map aS.bare)) (hok:TI ops.toList = true) (fp:Nat->Fp) (hind:∀ p ∈ Y3 ops.toList,Ind l fp p.1 p.2)
  {Q:Exit->Act->World->Prop} {s' : Fn} (hQ:∀ a' w' h' hd',Rl nt w0 h0 s'.1 s'.2 a' w' h' hd'->Q .normal a' w') :
  ∀ (fuel:Nat) (M:List Nat) (listed:Array Bool) (s:Fn) (a:Act) (w:World) (h:Hp) (hd:Nat->Value),M.length = fuel->M.Pairwise (· < ·)->listed.size = ops.size->(∀ i,i ∈ M ↔ i < ops.size ∧ listed.getD i true = false) ->
   (∀ k,listed.getD k false = true->∀ j,((aCZ ops.toList).getD k 0).testBit j = true->listed.getD j false = true) ->
   Rl nt w0 h0 s.1 s.2 a w h hd->DJ C l fp M s s'->wpAny P .any ops Q fuel listed a w:=by
 have hsz:∀ {i:Nat},i < ops.size->∃ o,ops[i]? = some o:=fun {i} hi=>⟨ops[i]'hi,by simp [hi]⟩
 intro fuel
 induction fuel with
 | zero =>
  intro M listed s a w h hd hl hp hs hM hdc r hst
  have:M = []:=Ñ hl
  subst this
  simp only [DJ] at hst
  subst hst
  refine ⟨?_,hQ _ _ _ _ r⟩
  apply List.eq_nil_iff_forall_not_mem.2
  intro i hi
  obtain ⟨h1,o,h2,_⟩:=mem_ready.1 hi
  have:=(hM i).2 ⟨(Ï.1 h2).1,h1⟩
  cases this
 | succ fuel ih =>
  intro M listed s a w h hd hl hp hs hM hdc r hst
  have listed_of:∀ j,j < ops.size->j ∉ M->listed.getD j false = true:=by
   intro j hj hn
   have:listed.getD j true ≠ false:=fun q=>hn ((hM j).2 ⟨hj,q⟩)
   have hjl:j < listed.size:=by omega
   simp only [Ì] at this ⊢
   simp [hjl] at this ⊢
   exact this
  refine ⟨fun hnil=>?_,fun i hi=>?_⟩
  ·-- the least one is ready
   exfalso
   match M,hl with
   | m :: M',_ =>
    have hm:=(hM m).1 (by simp)
    obtain ⟨o,ho⟩:=hsz hm.1
    have:m ∈ Region.ready .any ops listed:=by
     refine mem_ready.2 ⟨hm.2,o,ho,fun e he hb=>?_⟩
     have hlt:e.on < m:=by
      have h4:=Ó.1 hok (o,m) (by
       rw [î]; exact ⟨m,by simp [ho]⟩)
      have h3:=Ħ.1 h4 e he
      simpa [hb] using h3
     refine listed_of e.on (by omega) fun hmem=>?_
     rcases Ô.1 hmem with q | q
     ·omega
     ·have:=(Þ.1 hp).1 _ q; omega
    rw [hnil] at this
    cases this
  ·obtain ⟨hun,o,ho,hall⟩:=mem_ready.1 hi
   have hin:i < ops.size:=(Ï.1 ho).1
   have hiM:i ∈ M:=(hM i).2 ⟨hin,hun⟩
   obtain ⟨A,B,rfl⟩:=List.append_of_mem hiM
   have hanc:∀ j,((aCZ ops.toList).getD i 0).testBit j = true->listed.getD j false = true:=by
    intro j hj
    obtain ⟨e,he,hb,hje⟩:=aKn ops.toList hok (i:=i) (o:=o) (by simpa using ho) j hj
    have h5:=hall e he hb
    rcases hje with rfl | hje
    ·exact h5
    ·exact hdc _ h5 j hje
   have hpw:=ý.1 hp
   have hbr:=DJ.bring hst (fun j hj=>by
    have hji:j < i:=hpw.2.2 j hj i (by simp)
    have hjun:listed.getD j true = false:=((hM j).1 (by simp [hj])).2
    refine hind (j,i) ?_
    simp only [Y3]
    refine Ð.2 ⟨i,by simpa using hin,Ú.2 ⟨j,ă.2 ⟨by simpa using hji,?_⟩,rfl⟩⟩
    rw [Ň,← ŏ]
    intro hmem
    have:=hanc j hmem
    have hjl:j < listed.size:=by omega
    simp only [Ì] at hjun this
    simp [hjl] at hjun this
    rw [hjun] at this
    cases this)
   obtain ⟨so,s1,hso,hstep,hrest⟩:=hbr
   obtain ⟨o',q1,q2⟩:=cV hlow (show (l.map aS.bare)[i]? = some so.bare by simp [hso])
   have:o' = o:=by
    have:ops[i]? = some o':=by simpa using q1
    rw [ho] at this
    exact (õ this).symm
   subst this
   refine aBE hC r hF ho q2 hstep fun a' w' h' hd' r'=>ih (A ++ B) (listed.setIfInBounds i true) s1 a' w' h' hd' (by simp at hl ⊢; omega) ?_ (by simpa using hs) ?_ ?_ r' hrest
   ·refine ý.2 ⟨hpw.1,(Þ.1 hpw.2.1).2,fun x hx y hy=>hpw.2.2 x hx y (by simp [hy])⟩
   ·intro k
    have hnd:k ∈ A ++ B ↔ k ∈ A ++ i :: B ∧ k ≠ i:=by
     have hA:i ∉ A:=fun q=>absurd (hpw.2.2 i q i (by simp)) (by omega)
     have hB:i ∉ B:=fun q=>absurd ((Þ.1 hpw.2.1).1 i q) (by omega)
     simp only [Ê,Ô]
     constructor
     ·rintro (q | q)
      ·exact ⟨.inl q,fun e=>hA (e ▸ q)⟩
      ·exact ⟨.inr (.inr q),fun e=>hB (e ▸ q)⟩
     ·rintro ⟨q | q | q,hne⟩
      ·exact .inl q
      ·exact absurd q hne
      ·exact .inr q
    rw [hnd,hM k]
    constructor
    ·rintro ⟨⟨g1,g2⟩,g3⟩; exact ⟨g1,by rw [getD_set_ne true (ĺ g3)]; exact g2⟩
    ·rintro ⟨g1,g2⟩
     have g3:k ≠ i:=by
      rintro rfl
      have hkl:k < listed.size:=by omega
      simp [hkl] at g2
     exact ⟨⟨g1,by rw [getD_set_ne true (ĺ g3)] at g2; exact g2⟩,g3⟩
   ·intro k hk j hj
    by_cases hki:k = i
    ·subst hki; exact getD_set_true (hanc j hj)
    ·rw [getD_set_ne false (ĺ hki)] at hk
     exact getD_set_true (hdc k hk j hj)
theorem aAv (hC:vV P C) (hm:P.follows .mixedOrders = true) {ops:Array Oper} {l:List aS} (hF:aAg w0 ops) (hlow:aM (sN P nt ops) ops.toList = some (l.map aS.bare)) {id:Nat} {draw:Bool} {sd:Option (List (Nat × Nat))} (hd:if draw then TI ops.toList = true ∧ sd = some (Y3 ops.toList) else sd = none)
  {s s' : St} (hr:iX C l sd s = some s') {hd' : Nat->Value} (r:Rl nt w0 h0 s.get s.blk a w h hd') {Q:Exit->Act->World->Prop} (hQ:∀ a' w' h' hd',Rl nt w0 h0 s'.get s'.blk a' w' h' hd'->Q .normal a' w'):(Code.region id ops draw).wp P Q a w:=by
 have hlen:ops.size = l.length:=by simpa using (bN hlow).1
 cases draw with
 | false =>
  simp only [ö,Ĵ] at hd
  subst hd
  simp only [iX] at hr
  obtain ⟨ps,hps⟩:=P4 hr
  have hst:=uD l (fun i=>ps.getD i ([],[])) (k:=0) (fun i=>by simp) (fun i _=>by simp) hps
  refine ŧ ?_
  have e:(List.range l.length).map (0 + ·) = List.range ops.size:=by rw [hlen]; simp
  rw [e] at hst
  exact YX hC hF hlow _ (s':=s'.fn) hQ _ s.fn a w h hd' r hst
 | true =>
  simp only [Č] at hd
  obtain ⟨hok,rfl⟩:=hd
  simp only [iX] at hr
  split at hr
  ·rename_i s2 ps hps
   split at hr
   ·rename_i hap
    cases hr
    have hst:=uD l (fun i=>ps.getD i ([],[])) (k:=0) (fun i=>by simp) (fun i _=>by simp) hps
    have e:(List.range l.length).map (0 + ·) = List.range ops.size:=by rw [hlen]; simp
    rw [e] at hst
    have hind:∀ p ∈ Y3 ops.toList,Ind l (fun i=>ps.getD i ([],[])) p.1 p.2:=by
     intro p hp x y hx hy
     have:=Ó.1 hap p hp
     obtain ⟨i,j⟩:=p
     simp only at hx hy this ⊢
     rw [hx,hy] at this
     have hpl:=PS hps
     have hi:=(Æ.1 hx).1
     have hj:=(Æ.1 hy).1
     have hi' : i < ps.length:=by omega
     have hj' : j < ps.length:=by omega
     have e1:ps[i]? = some (ps.getD i ([],[])):=by simp [List.getD,hi']
     have e2:ps[j]? = some (ps.getD j ([],[])):=by simp [List.getD,hj']
     rw [e1,e2] at this
     exact this
    refine wp_region_any hm ?_
    refine aDY hC hF hlow hok _ hind (s':=s'.fn) hQ ops.size (List.range ops.size) _ s.fn a _ h hd' (by simp) Ŋ (by simp) ?_ ?_ r.drew hst
    ·intro i
     simp only [Ď]
     constructor
     ·intro hi; exact ⟨hi,by simp [hi]⟩
     ·exact fun hi=>hi.1
    ·intro k hk
     exfalso
     simp only [Ì,ş] at hk
     split at hk <;> simp at hk
   ·cases hr
  ·cases hr
end
end Vm
end
end Go.Proofs.Ytgjcnbgfaimepaa
