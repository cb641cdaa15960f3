/- The small machine. -/
import Derived.Test.YtoefdnkjcfoccaaDoorVmB
namespace Go.Proofs.YtoefdnkjcfoccaaDoor
section
namespace Vm
open Go.RowKit
def aQf (P:Program) (f:Nat):Prop:=∃ fn:Func,P.funcs[f]? = some fn ∧ fn.name ≠ "runtime.NumGoroutine" ∧ fn.body.isSome = true
def R4 (site:Nat) (es:List (Nat × Nat)) (rs:List (List (List D))):Nat->Option aO:=bQ (fun _=>none) (gY site 0 es rs)
def AB (base:cF) (w:World) (h:Hp) (v:Value):D->Prop
 | .own x es rs=>∀ site,∃ hd0:Nat->Value,R3 h hd0 (R4 site es rs) v (thaw site x) ∧
   (∀ id b,R4 site es rs id = some b->BR base w h hd0 (R4 site es rs) id b) ∧
   (∀ i j bi bj g,R4 site es rs i = some bi->R4 site es rs j = some bj->e9 (hd0 i) = some g->e9 (hd0 j) = some g->i = j)
 | x=>a6 h v x
theorem aIe {base:cF} {w:World} {h:Hp} {v:Value} {x:D} (hx:∀ y es rs,x ≠ .own y es rs):AB base w h v x ↔ a6 h v x:=by
 cases x <;> first | exact Iff.rfl | exact absurd rfl (hx _ _ _)
theorem G3 {site:Nat} {bl:Nat->Option aO} {fz:List (Nat × Option aO)} {x:D} (hx:∀ y es rs,x ≠ .own y es rs):qJ site bl fz x = some (toV x,if JR x then [] else fz):=by
 cases x <;> first | rfl | exact absurd rfl (hx _ _ _)
theorem HF (site:Nat):∀ (es:List (Nat × Nat)) (rs:List (List (List D))) (n:Nat),∀ p ∈ gY site n es rs,∃ b:aO,p.2 = some b ∧ b.live = true
 | [],rs,n,p,hp=>by simp [gY] at hp
 | (e,size) :: es,[],n,p,hp=>by simp [gY] at hp
 | (e,size) :: es,rows :: rs,n,p,hp=>by
  simp only [gY,Û] at hp
  rcases hp with rfl | hp
  ·exact ⟨_,rfl,by unfold B7; split <;> rfl⟩
  ·exact HF site es rs (n + 1) p hp
theorem UL {bl:Nat->Option aO}:∀ {l:List (Nat × Option aO)},OC bl l = true->∀ p ∈ l,bl p.1 = none
 | [],_,p,hp=>by simp at hp
 | (i,b) :: l,h,p,hp=>by
  simp only [OC] at h
  split at h
  ·rename_i hi
   rcases Û.1 hp with rfl | hp
   ·exact hi
   ·exact UL h p hp
  ·cases h
theorem aId {bl:Nat->Option aO} {l:List (Nat × Option aO)} (hf:∀ p ∈ l,bl p.1 = none) (id:Nat) :
  (∃ p ∈ l,p.1 = id ∧ bQ bl l id = p.2 ∧ bQ (fun _=>none) l id = p.2) ∨ (bQ bl l id = bl id ∧ bQ (fun _=>none) l id = none):=by
 unfold bQ
 have key:∀ (l:List (Nat × Option aO)),(∃ p ∈ l,p.1 = id ∧ lk l (bl id) id = p.2 ∧ lk l none id = p.2) ∨ (lk l (bl id) id = bl id ∧ lk l none id = none):=by
  intro l
  induction l with
  | nil=>exact .inr ⟨rfl,rfl⟩
  | cons q l ih =>
   obtain ⟨i,b⟩:=q
   by_cases e:id = i
   ·refine .inl ⟨(i,b),ò ..,e.symm,?_,?_⟩ <;> simp [lk,e]
   ·simp only [lk,Ã e]
    rcases ih with ⟨p,h1,h2⟩ | h
    ·exact .inl ⟨p,Ý _ h1,h2⟩
    ·exact .inr h
 exact key l
theorem BR.base {b0 b1:cF} (hle:∀ g,b1.own g->b0.own g) {w:World} {h:Hp} {hd:Nat->Value} {bl:Nat->Option aO} {id:Nat} {b:aO} (hO:b.live = true ∨ b0.O id = b1.O id) (r:BR b1 w h hd bl id b):BR b0 w h hd bl id b:=by
 cases b with
 | box cs =>
  obtain ⟨g,arr,e,h1,h2,h3⟩:=r
  exact ⟨g,arr,e,h1,hle g h2,h3⟩
 | rows ver e size rows =>
  obtain ⟨h1,h2,h3,h4⟩:=r
  exact ⟨h1,h2,h3,fun g hg=>⟨(h4 g hg).1,hle g (h4 g hg).2⟩⟩
 | froz ver rows=>exact r
 | fbox cs=>exact r
 | mp ek m =>
  obtain ⟨g,h1,h2,h3⟩:=r
  exact ⟨g,h1,hle g h2,h3⟩
 | fmp ek m=>exact r
 | outer cs =>
  rcases hO with q | q
  ·cases q
  ·intro j x hx
   rw [q]
   exact r j x hx
def uJ (P:Program) (f:Nat) (ds:List D) (x:D):Prop:=aQf P f ∧ ∀ (w:World) (h:Hp) (vs:Array Value),h.le (hw w)->vs.size = ds.length->(∀ (i:Nat) (d:D),ds[i]? = some d->a6 h (vs.getD i undef) d)->IW h ->
 Calls P f vs w fun e w'=>∃ v h',e = .returned v ∧ AB (cF.of w) w' h' v x ∧ h.le h' ∧ h'.le (hw w') ∧ (∀ b,b < w.heap.size->h' b = h b) ∧ Below w.heap.size w w'
def TC:D->Option (Nat × Nat × List (List D))
 | .own (.ref 0) [(e,size)] [rows]=>some (e,size,rows)
 | _=>none
def aAT (w:World) (h:Hp) (v:Value) (e size:Nat) (rows:List (List D)):Prop :=
 0 < size ∧ rows.length <= maxLen ∧ (∃ xs,nA w e size v rows.length xs ∧ jE h size rows xs) ∧ ∀ g,e9 v = some g->h g = none
def kG:Nat->List D->Option Nat
 | _,[]=>none
 | t,d :: ds=>match TC d with
  | some _=>some t
  | none=>kG (t + 1) ds
def cF.lent (w:World) (t:Nat) (v:Value):cF:={ w with L:=fun g=>e9 v = some g,F:=fun i=>if i = t then some v else none,O:=fun _ _=>undef,M:=[] }
def X1 (P:Program) (f:Nat) (ds:List D) (t:Nat) (x:D):Prop:=aQf P f ∧ ∀ (e size:Nat) (rows rows' : List (List D)) (y:D),ds[t]? = some (.own (.ref 0) [(e,size)] [rows])->x = .own y [(e,size)] [rows'] ->
 ∀ (w:World) (h:Hp) (vs:Array Value),h.le (hw w)->vs.size = ds.length->(∀ (i:Nat) (d:D),i ≠ t->ds[i]? = some d->a6 h (vs.getD i undef) d)->aAT w h (vs.getD t undef) e size rows->IW h ->
 Calls P f vs w fun en w'=>∃ v h',en = .returned v ∧ a6 h' v y ∧ aAT w' h' (vs.getD t undef) e size rows' ∧ h.le h' ∧ h'.le (hw w') ∧ CX (cF.lent w t (vs.getD t undef)) w w'
def rW (P:Program) (C:Nat->List D->Option D):Prop:=∀ f ds x,C f ds = some x->(kG 0 ds = none->uJ P f ds x) ∧ ∀ t,kG 0 ds = some t->X1 P f ds t x
theorem EK:∀ (ds:List D) (t:Nat),(∀ d ∈ ds,TC d = none)->kG t ds = none
 | [],_,_=>rfl
 | d :: ds,t,h=>by
  simp only [kG,h d (ò ..)]
  exact EK ds (t + 1) fun x hx=>h x (Ý _ hx)
theorem Q0:∀ (ds:List D) (i t:Nat) (d:D),ds[t]? = some d->(TC d).isSome = true->(∀ (j:Nat) (x:D),j < t->ds[j]? = some x->TC x = none)->kG i ds = some (i + t)
 | [],_,_,_,h,_,_=>by simp at h
 | x :: ds,i,0,d,h,hs,_=>by
  simp only [ï,Ä] at h
  subst h
  obtain ⟨y,hy⟩:=ü.1 hs
  simp [kG,hy]
 | x :: ds,i,t + 1,d,h,hs,hn=>by
  simp only [kG,hn 0 x (by omega) rfl]
  rw [Q0 ds (i + 1) t d (by simpa using h) hs (fun j y hj hy=>hn (j + 1) y (by omega) (by simpa using hy))]
  congr 1
  omega
theorem SM {h:Hp} {v:Value} {d:D} (r:a6 h v d):TC d = none:=by
 cases r <;> rfl
section
variable {P:Program} {nt:Nat} {w0:cF} {w w' : World} {h0 h h' : Hp} {fr:Nat->V} {bl:Nat->Option aO} {a:Act} {hd:Nat->Value}
theorem eF {o:Oper} {K:Act->World->Prop} {Q:Exit->Act->World->Prop} {s:Sem Value} {cv:Value} (he:execOp a.eval o = (do pure (.value (← s)))) (hr:s.run P w = .ok cv w') (hk:K (a.put o.dst cv) w'):o.wp P a w K Q:=by
 unfold Oper.wp
 rw [he]
 simp only [î,hr,ñ,ĕ]
 exact hk
theorem I9 {o:Oper} {K:Act->World->Prop} {Q:Exit->Act->World->Prop} {s:Sem Unit} (he:execOp a.eval o = (do s; pure .skip)) (hr:s.run P w = .ok () w') (hk:K (a.put o.dst undef) w'):o.wp P a w K Q:=by
 unfold Oper.wp
 rw [he]
 simp only [î,hr,ñ,ĕ]
 exact hk
theorem Rl.call (r:Rl nt w0 h0 fr bl a w h hd) (dst:Option Nat) (hdst:GB nt w0 dst) (cv:Value) (v:V) (hl:h.le h') (hle:h'.le (hw w')) (hb:∀ b,b < w.heap.size->h' b = h b) (hbel:Below w.heap.size w w') (hv:R3 h' hd bl cv v) :
  Rl nt w0 h0 (fB fr dst v) bl (a.put dst cv) w' h' hd:=by
 have hbase:=r.below.size
 refine r.put dst cv v hdst hl hle (fun b hb'=>hb b (ğ (cF.lt hb') hbase)) (CX.of hbase hbel) (Kp.refl _ _) ?_ r.sep hv
 intro id b hbl
 refine (r.blk id b hbl).keep hl (Kp.refl _ _) rfl fun hlv g hg=>?_
 have:=(r.blk id b hbl).num hlv hg
 exact ⟨hbel.block g this.2.1,fun q=>by rw [hb g this.2.1]; exact q⟩
theorem Rl.drew (r:Rl nt w0 h0 fr bl a w h hd):Rl nt w0 h0 fr bl a { w with drawn:=w.drawn + 1 } h hd where
 tmps:=r.tmps
 defers:=r.defers
 fixed:=r.fixed
 below:=r.below.drew
 hle:=r.hle
 h0le:=r.h0le
 glob:=r.glob
 hbase:=r.hbase
 frame:=r.frame
 blk:=fun id b hb=>(r.blk id b hb).keep (Hp.le.refl _) (Kp.refl _ _) rfl fun _ _ _=>⟨rfl,fun q=>q⟩
 sep:=r.sep
theorem JF (r:Rl nt w0 h0 fr bl a w h hd) {x:Option Operand} {y:Option bO} (e:X5 x = some y) :
  (∀ z,y.map (bN fr) = some z->∃ u,x.map a.eval = some u ∧ R3 h hd bl u z) ∧ (y.map (bN fr) = none->x.map a.eval = none):=by
 cases x with
 | none=>simp only [X5,Ä] at e; subst e; exact ⟨fun z hz=>(by cases hz),fun _=>rfl⟩
 | some x =>
  simp only [X5,Á] at e
  obtain ⟨x',e1,rfl⟩:=e
  refine ⟨fun z hz=>?_,fun hz=>(by cases hz)⟩
  simp only [Ù,Ä] at hz
  subst hz
  exact ⟨_,rfl,bC r.globs r.frame e1⟩
theorem aTy {op:BinOp} {x y:V} {d:D} (e:B3 0 op x y = some d):(∃ k m n,x = .d (.int k m) ∧ y = .d (.int k n) ∧ oF op k m n = some d) ∨ ∃ m n,x = .d (.str m) ∧ y = .d (.str n) ∧ TN op m n = some d:=by
 unfold B3 at e
 split at e
 ·split at e
  ·rename_i hk; subst hk; exact .inl ⟨_,_,_,rfl,rfl,e⟩
  ·cases e
 ·exact .inr ⟨_,_,rfl,rfl,e⟩
 all_goals (first | (cases e; done) | (simp_all; done))
theorem aUA {op:BinOp} {x y:V} {d:D} (e:B3 1 op x y = some d):∃ m n,x = .d (.bool m) ∧ y = .d (.bool n):=by
 unfold B3 at e
 split at e <;> first | (simp_all; done) | exact ⟨_,_,rfl,rfl⟩
theorem Rl.thaw (r:Rl nt w0 h0 fr bl a w h hd) (dst:Option Nat) (hdst:GB nt w0 dst) (cv:Value) (v:V) (hl:h.le h') (hle:h'.le (hw w')) (hb:∀ b,b < w.heap.size->h' b = h b) (hbel:Below w.heap.size w w')
  (l:List (Nat × Option aO)) (hf:∀ p ∈ l,bl p.1 = none) (hlv:∀ p ∈ l,∃ b:aO,p.2 = some b ∧ b.live = true) (hd0:Nat->Value) (hv:R3 h' hd0 (bQ (fun _=>none) l) cv v)
  (hB:∀ id b,bQ (fun _=>none) l id = some b->BR (cF.of w) w' h' hd0 (bQ (fun _=>none) l) id b)
  (hS:∀ i j bi bj g,bQ (fun _=>none) l i = some bi->bQ (fun _=>none) l j = some bj->e9 (hd0 i) = some g->e9 (hd0 j) = some g->i = j) :
  ∃ hd',Rl nt w0 h0 (fB fr dst v) (bQ bl l) (a.put dst cv) w' h' hd':=by
 have hbase:=r.below.size
 have hcase:=aId hf
 have hlive:∀ id b,bQ (fun _=>none) l id = some b->b.live = true:=fun id b hb=>by
  rcases hcase id with ⟨p,h1,h2,h3,h4⟩ | ⟨h3,h4⟩
  ·obtain ⟨b',h5,h6⟩:=hlv p h1
   rw [h4,h5] at hb; cases hb; exact h6
  ·rw [h4] at hb; cases hb
 let hd' : Nat->Value:=fun id=>if (bQ (fun _=>none) l id).isSome = true then hd0 id else hd id
 have hnew:∀ id b,bQ (fun _=>none) l id = some b->bQ bl l id = some b ∧ hd' id = hd0 id:=fun id b hb=>by
  rcases hcase id with ⟨p,h1,h2,h3,h4⟩ | ⟨h3,h4⟩
  ·exact ⟨by rw [h3,← h4,hb],by simp [hd',hb]⟩
  ·rw [h4] at hb; cases hb
 have hold:∀ id b,bl id = some b->bQ bl l id = some b ∧ hd' id = hd id:=fun id b hb=>by
  rcases hcase id with ⟨p,h1,h2,h3,h4⟩ | ⟨h3,h4⟩
  ·have:=hf p h1; rw [h2,hb] at this; cases this
  ·exact ⟨by rw [h3,hb],by simp [hd',h4]⟩
 have hcases:∀ id b,bQ bl l id = some b->(bQ (fun _=>none) l id = some b ∧ hd' id = hd0 id) ∨ (bl id = some b ∧ hd' id = hd id):=fun id b hb=>by
  rcases hcase id with ⟨p,h1,h2,h3,h4⟩ | ⟨h3,h4⟩
  ·have:bQ (fun _=>none) l id = some b:=by rw [h4,← h3,hb]
   exact .inl ⟨this,(hnew id b this).2⟩
  ·rw [h3] at hb; exact .inr ⟨hb,(hold id b hb).2⟩
 have hk:Kp hd hd' bl (bQ bl l):=fun id b hb=>by
  obtain ⟨q1,q2⟩:=hold id b hb
  refine ⟨b,q1,?_⟩
  cases b <;> simp [A7,q2]
 have hk0:Kp hd0 hd' (bQ (fun _=>none) l) (bQ bl l):=fun id b hb=>by
  obtain ⟨q1,q2⟩:=hnew id b hb
  refine ⟨b,q1,?_⟩
  cases b <;> simp [A7,q2]
 refine ⟨hd',r.put dst cv v hdst hl hle (fun b hb'=>hb b (ğ (cF.lt hb') hbase)) (CX.of hbase hbel) hk ?_ ?_ (hv.keep (Hp.le.refl _) hk0)⟩
 ·intro id b hid
  rcases hcases id b hid with ⟨q1,q2⟩ | ⟨q1,q2⟩
  ·exact ((hB id b q1).base (fun g hg=>.inl (ó hbase (cF.own_of hg))) (.inl (hlive id b q1))).keep (Hp.le.refl _) hk0 q2 fun _ g _=>⟨rfl,fun q=>q⟩
  ·refine (r.blk id b q1).keep hl hk q2 fun hlv g hg=>?_
   have:=(r.blk id b q1).num hlv hg
   exact ⟨hbel.block g this.2.1,fun q=>by rw [hb g this.2.1]; exact q⟩
 ·intro i j bi bj g hi hj li lj gi gj
  rcases hcases i bi hi with ⟨i1,i2⟩ | ⟨i1,i2⟩ <;> rcases hcases j bj hj with ⟨j1,j2⟩ | ⟨j1,j2⟩
  ·exact hS i j bi bj g i1 j1 (i2 ▸ gi) (j2 ▸ gj)
  ·have h1:=cF.own_of ((hB i bi i1).num (hlive i bi i1) (i2 ▸ gi)).1
   have h2:=((r.blk j bj j1).num lj (j2 ▸ gj)).2.1
   omega
  ·have h1:=cF.own_of ((hB j bj j1).num (hlive j bj j1) (j2 ▸ gj)).1
   have h2:=((r.blk i bi i1).num li (i2 ▸ gi)).2.1
   omega
  ·exact r.sep i j bi bj g i1 j1 li lj (i2 ▸ gi) (j2 ▸ gj)
theorem aKi (bl:Nat->Option aO) (a b:List (Nat × Option aO)):bQ bl (a ++ b) = bQ (bQ bl b) a:=by
 funext id
 unfold bQ
 induction a with
 | nil=>rfl
 | cons p a ih =>
  obtain ⟨i,x⟩:=p
  simp only [Č,lk]
  rw [ih]
theorem WO (r:Rl nt w0 h0 fr bl a w h hd) {f:Nat} {ds:List D} {x:D} (hS:uJ P f ds x) {o:Oper} (hdst:GB nt w0 o.dst) {vs:Array Value} (hexec:(execOp a.eval o).run P w = .ok (.enter f vs) w)
  {wr wr' : List (Nat × Option aO)} {site:Nat} {v' : V} (hcr:qJ site bl wr x = some (v',wr')) (hok:wX bl wr) (hsz:vs.size = ds.length) (hrd:∀ (i:Nat) (d:D),ds[i]? = some d->a6 (H5 w h hd wr) (vs.getD i undef) d) {K:Act->World->Prop} {Q:Exit->Act->World->Prop}
  (hK:∀ a' w' h' hd',Rl nt w0 h0 (fB fr o.dst v') (bQ bl wr') a' w' h' hd'->K a' w'):o.wp P a w K Q:=by
 have hS:=hS.2 w (H5 w h hd wr) vs (MN r _) hsz hrd (r.globs.mono (uK r _))
 unfold Oper.wp
 rw [hexec]
 simp only [Oper.upon]
 refine hS.mono ?_
 rintro e w' ⟨cv,h',rfl,g1,g2,g3,g4,g5⟩
 simp only
 by_cases hx:∃ y es rs,x = .own y es rs
 ·obtain ⟨y,es,rs,rfl⟩:=hx
  simp only [qJ] at hcr
  split at hcr
  ·rename_i hfree
   cases hcr
   obtain ⟨hd0,q1,q2,q3⟩:=g1 site
   have hf:∀ p ∈ gY site 0 es rs,bQ bl wr p.1 = none:=fun p hp=>aE3 hok (UL hfree p hp)
   obtain ⟨hd',r'⟩:=(r.freeze _ hok).thaw o.dst hdst cv _ g2 g3 g4 g5 _ hf (HF site es rs 0) hd0 q1 q2 q3
   rw [← aKi] at r'
   exact hK _ _ h' hd' r'
  ·cases hcr
 ·have hx:∀ y es rs,x ≠ .own y es rs:=fun y es rs e=>hx ⟨y,es,rs,e⟩
  rw [G3 hx] at hcr
  rw [aIe hx] at g1
  cases hcr
  by_cases hfl:JR x = true
  ·rw [Â hfl] at hK
   refine hK _ _ h hd (r.call o.dst hdst cv (toV x) (Hp.le.refl _) ?_ (fun _ _=>rfl) g5 (aDG (DC g1 hfl h)))
   intro b ob hb
   exact (g5.block b (Ï.1 (r.hle b ob hb)).1).trans (r.hle b ob hb)
  ·rw [Ã hfl] at hK
   exact hK _ _ h' hd ((r.freeze _ hok).call o.dst hdst cv (toV x) g2 g3 g4 g5 (aDG g1))
theorem aI6 (r:Rl nt w0 h0 fr bl a w h hd) {op:BinOp} {t:TypeId} {x y:Operand} {so:fT} (hlow:LZ P op t x y = some so) {C:Nat->List D->Option D} {site:Nat} {v:V} {wr:List (Nat × Option aO)} (ha:cE C site (bN fr) bl so = some (v,wr)) :
  ∃ d,v = .d d ∧ wr = [] ∧ ∃ cv,((do eqGuard op t x y (a.eval x) (a.eval y); binOp op t (a.eval x) (a.eval y)):Sem Value).run P w = .ok cv w ∧ a6 h cv d ∧ d.atom = true:=by
 unfold LZ at hlow
 split at hlow
 ·rename_i x' y' h1 h2
  have hx:=bC r.globs r.frame h1
  have hy:=bC r.globs r.frame h2
  have fin:∀ (d:D),v = .d d->wr = []->(∃ cv,((do eqGuard op t x y (a.eval x) (a.eval y); binOp op t (a.eval x) (a.eval y)):Sem Value).run P w = .ok cv w ∧ a6 h cv d ∧ d.atom = true)->∃ d,v = .d d ∧ wr = [] ∧ ∃ cv,((do eqGuard op t x y (a.eval x) (a.eval y); binOp op t (a.eval x) (a.eval y)):Sem Value).run P w = .ok cv w ∧ a6 h cv d ∧ d.atom = true:=fun d h1 h2 h3=>⟨d,h1,h2,h3⟩
  have res:∀ (z:Option D),LA.v z = some (v,wr)->∃ d,z = some d ∧ v = .d d ∧ wr = []:=by
   intro z hz
   simp only [LA.v,Á] at hz
   obtain ⟨d,e1,e2⟩:=hz
   cases e2
   exact ⟨d,e1,rfl,rfl⟩
  have zero:∀ (d:D),B3 0 op (bN fr x') (bN fr y') = some d->∃ cv,((do eqGuard op t x y (a.eval x) (a.eval y); binOp op t (a.eval x) (a.eval y)):Sem Value).run P w = .ok cv w ∧ a6 h cv d ∧ d.atom = true:=by
   intro d e
   generalize bN fr x' = xx at hx e
   generalize bN fr y' = yy at hy e
   rcases aTy e with ⟨k,m,n,rfl,rfl,e'⟩ | ⟨m,n,rfl,rfl,e'⟩
   ·rw [mC hx,mC hy]; exact aCK e'
   ·rw [(EF hx).1,(EF hy).1]; exact aCE e'
  split at hlow <;> first | (cases hlow; done) | skip
  ·split at hlow
   ·cases hlow
    simp only [cE] at ha
    obtain ⟨d,e1,e2,e3⟩:=res _ ha
    exact fin d e2 e3 (zero d e1)
   ·cases hlow
  ·split at hlow
   ·cases hlow
    simp only [cE] at ha
    obtain ⟨d,e1,e2,e3⟩:=res _ ha
    exact fin d e2 e3 (zero d e1)
   ·cases hlow
  split at hlow
  ·cases hlow
   simp only [cE] at ha
   obtain ⟨d,e1,e2,e3⟩:=res _ ha
   exact fin d e2 e3 (zero d e1)
  ·cases hlow
   simp only [cE] at ha
   obtain ⟨d,e1,e2,e3⟩:=res _ ha
   exact fin d e2 e3 (zero d e1)
  ·rename_i hu
   cases hlow
   simp only [cE] at ha
   obtain ⟨d,e1,e2,e3⟩:=res _ ha
   refine fin d e2 e3 ?_
   generalize bN fr x' = xx at hx e1
   generalize bN fr y' = yy at hy e1
   obtain ⟨m,n,rfl,rfl⟩:=aUA e1
   rw [oA hx,oA hy]; exact aBn hu e1
  ·rename_i fs hu
   cases hq:HJ P 20 t with
   | none=>simp only [hq] at hlow; (first | (cases hlow; done) | (split at hlow <;> cases hlow))
   | some ks =>
    simp only [hq] at hlow
    cases op <;> dsimp only at hlow <;> first | (cases hlow; done) | skip
    ·split at hlow
     ·rename_i hg
      cases hlow
      simp only [cE] at ha
      obtain ⟨d,e1,e2,e3⟩:=res _ ha
      exact fin d e2 e3 (aES (neg:=false) hq hu hg hx hy e1 x y)
     ·cases hlow
    ·split at hlow
     ·rename_i hg
      cases hlow
      simp only [cE] at ha
      obtain ⟨d,e1,e2,e3⟩:=res _ ha
      exact fin d e2 e3 (aES (neg:=true) hq hu hg hx hy e1 x y)
     ·cases hlow
  ·rename_i hu
   split at hlow <;> first | (cases hlow; done) | skip
   ·cases hlow
    simp only [cE] at ha
    obtain ⟨d,e1,e2,e3⟩:=res _ ha
    exact fin d e2 e3 (WC (neg:=false) r hu hx hy e1 x y)
   ·cases hlow
    simp only [cE] at ha
    obtain ⟨d,e1,e2,e3⟩:=res _ ha
    exact fin d e2 e3 (WC (neg:=true) r hu hx hy e1 x y)
  ·rename_i hu
   split at hlow <;> first | (cases hlow; done) | skip
   ·cases hlow
    simp only [cE] at ha
    obtain ⟨d,e1,e2,e3⟩:=res _ ha
    exact fin d e2 e3 (aAy (neg:=false) hu hx hy e1 x y)
   ·cases hlow
    simp only [cE] at ha
    obtain ⟨d,e1,e2,e3⟩:=res _ ha
    exact fin d e2 e3 (aAy (neg:=true) hu hx hy e1 x y)
  ·cases hlow
 ·cases hlow
theorem WZ {bl:Nat->Option aO} {t:Nat}:∀ {vs:List V} {i:Nat} {ds:List D},FH bl t i vs = some ds->vs.length = ds.length ∧ ∀ (j:Nat) (v:V),vs[j]? = some v->∃ d,ds[j]? = some d ∧ (if i + j = t then OB bl v else iX bl v) = some d
 | [],i,ds,h=>by simp [FH] at h; subst h; simp
 | v :: r,i,ds,h=>by
  simp only [FH] at h
  split at h
  ·cases h
  ·rename_i d hd
   split at h
   ·cases h
   ·rename_i ds' hds
    cases h
    obtain ⟨h1,h2⟩:=WZ hds
    refine ⟨by simp [h1],fun j u hj=>?_⟩
    cases j with
    | zero=>simp only [ï,Ä] at hj; subst hj; exact ⟨d,rfl,hd⟩
    | succ j =>
     obtain ⟨d',q1,q2⟩:=h2 j u (by simpa using hj)
     refine ⟨d',by simpa using q1,?_⟩
     rw [show i + (j + 1) = i + 1 + j by omega]
     exact q2
theorem V6 {bl:Nat->Option aO} {t:Nat}:∀ (vs:List V) (i:Nat),wX bl (uO bl t i vs)
 | [],i=>by intro p hp; simp [uO] at hp
 | v :: r,i=>by
  have key:wX bl ((if i = t then [] else [v]).flatMap (yG bl) ++ uO bl t (i + 1) r):=by
   intro p hp
   rcases Ó.1 hp with q | q
   ·rcases wX.flatMap (bl:=bl) (if i = t then [] else [v]) (fun z=>z) p q with h | ⟨cs,ds,h1,h2,h3,h4⟩ | h
    ·exact .inl h
    ·exact .inr (.inl ⟨cs,ds,h1,h2,h3,fun x hx=>Ó.2 (.inl (h4 x hx))⟩)
    ·exact .inr (.inr h)
   ·rcases V6 r (i + 1) p q with h | ⟨cs,ds,h1,h2,h3,h4⟩ | h
    ·exact .inl h
    ·exact .inr (.inl ⟨cs,ds,h1,h2,h3,fun x hx=>Ó.2 (.inr (h4 x hx))⟩)
    ·exact .inr (.inr h)
  simp only [uO]
  by_cases e:i = t
  ·simpa [e] using key
  ·simpa [e] using key
theorem SR {bl:Nat->Option aO} {t:Nat}:∀ (vs:List V) (i j:Nat) (v:V),vs[j]? = some v->i + j ≠ t->∀ p ∈ yG bl v,p ∈ uO bl t i vs
 | [],i,j,v,h,_,p,hp=>by simp at h
 | u :: r,i,0,v,h,hn,p,hp=>by
  simp only [ï,Ä] at h
  subst h
  simp only [uO,Ã (show ¬ i = t by omega)]
  exact Ó.2 (.inl hp)
 | u :: r,i,j + 1,v,h,hn,p,hp=>by
  simp only [uO]
  exact Ó.2 (.inr (SR r (i + 1) j v (by simpa using h) (by omega) p hp))
theorem aBi {size:Nat} {rows:List (List D)} {xs:List Value} (r:jE h size rows xs) (hf:rN rows = true) (k:Hp):jE k size rows xs:=fun i row hi =>
 ⟨(r i row hi).1,fun j x hx=>⟨((r i row hi).2 j x hx).1,by
  obtain ⟨u,h1,h2⟩:=((r i row hi).2 j x hx).2
  have h3:=Ì.1 (Ì.1 hf row (Ê hi)) x (Ê hx)
  refine ⟨u,h1,DC h2 ?_ k⟩
  cases x <;> first | rfl | cases h3⟩⟩
theorem JJ (r:Rl nt w0 h0 fr bl a w h hd) {v:Value} {x:V} (h3:R3 h hd bl v x) {d:D} (e:iX bl x = some d):TC d = none:=by
 have:a6 (H5 w h hd (yG bl x)) v d:=by
  refine oL r _ ?_ e fun p hp=>hp
  cases x with
  | tup vs=>cases e
  | _=>exact h3
 exact SM this
theorem S1 {o:Oper} {f:Nat} {args:List bO} (h:xV P o = .call f args) :
  ∃ (c:Call) (fn:Func),o.op = .call c ∧ c.callee = .value (.func f) ∧ P.funcs[f]? = some fn ∧ aT iA c.args.toList = some args ∧ fn.name ≠ "runtime.NumGoroutine" ∧ fn.body.isSome = true:=by
 unfold xV at h
 cases hl:BX P o with
 | none=>rw [hl] at h; cases h
 | some so =>
  rw [hl] at h
  simp only [è] at h
  subst h
  unfold BX at hl
  cases hop:o.op with
  | call c =>
   rw [hop] at hl
   simp only at hl
   split at hl
   ·rename_i f' hcal
    split at hl
    ·rename_i fn args' hfn hl'
     split at hl
     ·rename_i hc
      cases hl
      exact ⟨c,fn,rfl,hcal,hfn,hl',hc.1,hc.2⟩
     ·cases hl
    ·cases hl
   all_goals repeat' (first | (cases hl; done) | (rw [Á] at hl; obtain ⟨_,_,e⟩:=hl; cases e; done) | split at hl)
  | _ =>
   rw [hop] at hl
   simp only at hl
   try unfold LZ at hl
   repeat' (first | (cases hl; done) | (rw [Á] at hl; obtain ⟨_,_,e⟩:=hl; cases e; done) | split at hl)
theorem Q1 {o:Oper} {g:bO} {args:List bO} (h:xV P o = .callv g args) :
  ∃ (c:Call) (x:Operand),o.op = .call c ∧ c.callee = .value x ∧ iA x = some g ∧ aT iA c.args.toList = some args:=by
 unfold xV at h
 cases hl:BX P o with
 | none=>rw [hl] at h; cases h
 | some so =>
  rw [hl] at h
  simp only [è] at h
  subst h
  unfold BX at hl
  cases hop:o.op with
  | call c =>
   rw [hop] at hl
   simp only at hl
   split at hl
   ·repeat' (first | (cases hl; done) | split at hl)
   ·rename_i x hnf hcal
    split at hl
    ·rename_i x' args' hx hl'
     cases hl
     exact ⟨c,x,rfl,hcal,hx,hl'⟩
    ·cases hl
   all_goals repeat' (first | (cases hl; done) | (rw [Á] at hl; obtain ⟨_,_,e⟩:=hl; cases e; done) | split at hl)
  | _ =>
   rw [hop] at hl
   simp only at hl
   try unfold LZ at hl
   repeat' (first | (cases hl; done) | (rw [Á] at hl; obtain ⟨_,_,e⟩:=hl; cases e; done) | split at hl)
theorem aCW {o:Oper} {f:Nat} {caps:List bO} (h:xV P o = .mkfn f caps) :
  ∃ captured:Array Operand,o.op = .makeFunc (.func f) #[] captured ∧ aT iA captured.toList = some caps:=by
 unfold xV at h
 cases hl:BX P o with
 | none=>rw [hl] at h; cases h
 | some so =>
  rw [hl] at h
  simp only [è] at h
  subst h
  unfold BX at hl
  cases hop:o.op with
  | makeFunc fn first captured =>
   rw [hop] at hl
   simp only at hl
   split at hl
   ·split at hl
    ·rename_i hf
     rw [Á] at hl
     obtain ⟨caps',h1,e⟩:=hl
     cases e
     have hfe:first = #[]:=by simpa using hf
     subst hfe
     exact ⟨captured,rfl,h1⟩
    ·cases hl
   ·cases hl
  | _ =>
   rw [hop] at hl
   simp only at hl
   try unfold LZ at hl
   repeat' (first | (cases hl; done) | (rw [Á] at hl; obtain ⟨_,_,e⟩:=hl; cases e; done) | split at hl)
theorem aIZ {C:Nat->List D->Option D} (r:Rl nt w0 h0 fr bl a w h hd) (o:Oper) {f:Nat} {caps:List bO} (hlow:xV P o = .mkfn f caps) (hdst:GB nt w0 o.dst)
  {site:Nat} {v:V} {wr:List (Nat × Option aO)} (ha:cE C site (bN fr) bl (.mkfnv f caps) = some (v,wr)) {K:Act->World->Prop} {Q:Exit->Act->World->Prop}
  (hK:∀ a' w' h' hd',Rl nt w0 h0 (fB fr o.dst v) (bQ bl wr) a' w' h' hd'->K a' w'):o.wp P a w K Q:=by
 obtain ⟨captured,hop,hl⟩:=aCW hlow
 obtain ⟨m1,m2⟩:=bP hl
 simp only [cE] at ha
 split at ha
 ·rename_i hall
  cases ha
  refine eF (s:=Instr.makeFunc (.func f) #[] (captured.map a.eval)) (cv:=.func (.func f) #[] (captured.map a.eval)) (w':=w) (by simp [execOp,hop]) (by simp [Instr.makeFunc]) (hK _ _ _ _ (r.put0 o.dst _ _ hdst ⟨captured.map a.eval,rfl,by simpa using m1,fun j x hx=>?_⟩))
  have hb:=Ì.1 hall x (Ê hx)
  rw [Ç,Á] at hx
  obtain ⟨y,hy,rfl⟩:=hx
  obtain ⟨z,z1,z2⟩:=bU hl hy
  have z1' : captured[j]? = some z:=by simpa using z1
  have e3:(captured.map a.eval).getD j undef = a.eval z:=by simp [z1']
  rw [e3]
  have h3:=bC r.globs r.frame z2
  generalize bN fr y = yy at h3 hb
  cases yy with
  | ptr id off=>exact h3
  | _=>cases hb
 ·cases ha
theorem Rl.lent (r:Rl nt w0 h0 fr bl a w h hd) (dst:Option Nat) (hdst:GB nt w0 dst) (cv:Value) {y:D} {id ver e size:Nat} {rows rows' : List (List D)} (hb:bl id = some (.rows ver e size rows)) {t:Nat} (hbel:CX (cF.lent w t (hd id)) w w')
  (hl:aAT w' h' (hd id) e size rows') (hy:a6 h' cv y) (hf:JR y = true) (hfr:rN rows' = true) :
  Rl nt w0 h0 (fB fr dst (toV y)) (bQ bl [(id,some (.rows ver e size rows'))]) (a.put dst cv) w' h hd:=by
 obtain ⟨l1,l2,⟨xs,l3,l4⟩,l5⟩:=hl
 have hbs:=r.below.size
 have hnum:∀ g,e9 (hd id) = some g->w0.own g ∧ g < w.heap.size ∧ h g = none:=fun g hg=>(r.blk id _ hb).num rfl hg
 have hbel0:CX w0 w w':=⟨hbel.os,hbel.tape,hbel.output,hbel.size,fun k hk=>hbel.block k fun q=>by
  rcases q with q | q
  ·exact hk (.inl (ó hbs q))
  ·exact hk (hnum k q).1⟩
 have hsame:∀ g,g < w.heap.size->e9 (hd id) ≠ some g->w'.heap[g]? = w.heap[g]?:=fun g hg hn=>hbel.block g fun q=>by
  rcases q with q | q
  ·exact absurd (show w.heap.size <= g from q) (by omega)
  ·exact hn q
 have hle:h.le (hw w'):=fun b o hbo=>by
  have h1:=r.hle b o hbo
  refine (hsame b (Ï.1 h1).1 fun q=>?_).trans h1
  rw [(hnum b q).2.2] at hbo; cases hbo
 have hk:Kp hd hd bl (bQ bl [(id,some (.rows ver e size rows'))]):=by
  intro j c hj
  by_cases ej:j = id
  ·subst ej; rw [hb] at hj; cases hj; exact ⟨_,nL _ _ _,.inl ⟨rfl,rfl,rfl,rfl⟩⟩
  ·exact ⟨c,by rw [y9 _ _ ej]; exact hj,A7.refl hd j c⟩
 refine r.put dst cv (toV y) hdst (Hp.le.refl _) hle (fun _ _=>rfl) hbel0 hk ?_ ?_ (aDG (DC hy hf h))
 ·intro j c hj
  by_cases ej:j = id
  ·subst ej
   rw [nL] at hj
   cases hj
   exact ⟨l1,l2,⟨xs,l3,aBi l4 hfr h⟩,fun g hg=>⟨(hnum g hg).2.2,(hnum g hg).1⟩⟩
  ·rw [y9 _ _ ej] at hj
   refine (r.blk j c hj).keep (Hp.le.refl _) hk rfl fun hlv g hg=>⟨hsame g ((r.blk j c hj).num hlv hg).2.1 fun q=>ej (r.sep j id c _ g hj hb hlv rfl hg q),fun q=>q⟩
 ·intro i j bi bj g hi hj li lj gi gj
  have back:∀ k c,bQ bl [(id,some (.rows ver e size rows'))] k = some c->c.live = true->∃ c',bl k = some c' ∧ c'.live = true:=by
   intro k c hkc hlc
   by_cases ek:k = id
   ·subst ek; exact ⟨_,hb,rfl⟩
   ·rw [y9 _ _ ek] at hkc; exact ⟨c,hkc,hlc⟩
  obtain ⟨b1,q1,q2⟩:=back i bi hi li
  obtain ⟨b2,q3,q4⟩:=back j bj hj lj
  exact r.sep i j b1 b2 g q1 q3 q2 q4 gi gj
theorem aSw {C:Nat->List D->Option D} (hC:rW P C) (r:Rl nt w0 h0 fr bl a w h hd) (o:Oper) {so:fT} (hlow:BX P o = some so) (hdst:GB nt w0 o.dst)
  {site:Nat} {v:V} {wr:List (Nat × Option aO)} (ha:cE C site (bN fr) bl so = some (v,wr)) {K:Act->World->Prop} {Q:Exit->Act->World->Prop}
  (hK:∀ a' w' h' hd',Rl nt w0 h0 (fB fr o.dst v) (bQ bl wr) a' w' h' hd'->K a' w'):o.wp P a w K Q:=by
 unfold BX at hlow
 split at hlow
 ·-- move
  rename_i x hop
  rw [Á] at hlow
  obtain ⟨y,h1,rfl⟩:=hlow
  simp only [cE] at ha
  cases ha
  exact eF (s:=pure (a.eval x)) (by simp [execOp,hop]) (by simp) (hK _ _ _ _ (r.put0 o.dst _ _ hdst (bC r.globs r.frame h1)))
 ·rename_i x hop
  rw [Á] at hlow
  obtain ⟨y,h1,rfl⟩:=hlow
  simp only [cE] at ha
  cases ha
  exact eF (s:=pure (a.eval x)) (by simp [execOp,hop]) (by simp) (hK _ _ _ _ (r.put0 o.dst _ _ hdst (bC r.globs r.frame h1)))
 ·-- pick
  rename_i c x y hop
  split at hlow
  ·rename_i c' x' y' h1 h2 h3
   cases hlow
   simp only [cE] at ha
   have hc:=bC r.globs r.frame h1
   split at ha
   ·rename_i hb
    cases ha
    rw [hb] at hc
    exact eF (s:=pure (a.eval x)) (by simp [execOp,hop,oA hc,asBool]) (by simp) (hK _ _ _ _ (r.put0 o.dst _ _ hdst (bC r.globs r.frame h2)))
   ·rename_i hb
    cases ha
    rw [hb] at hc
    exact eF (s:=pure (a.eval y)) (by simp [execOp,hop,oA hc,asBool]) (by simp) (hK _ _ _ _ (r.put0 o.dst _ _ hdst (bC r.globs r.frame h3)))
   ·cases ha
  ·cases hlow
 ·-- alloc
  rename_i e hop
  split at hlow
  ·rename_i i hi
   split at hlow
   ·rename_i z hz
    rw [Á] at hlow
    obtain ⟨zs,h1,rfl⟩:=hlow
    simp only [cE] at ha
    split at ha
    ·rename_i hs
     cases ha
     obtain ⟨z1,z2⟩:=D2 (h:=h) (hd:=hd) (bl:=bl) h1
     obtain ⟨cv,w',hd',q1,q2⟩:=TW (P:=P) r o.dst hdst site hs e z zs z1 z2
     refine eF (s:=Instr.alloc e true (.tuple #[])) (by simp [execOp,hop]) (cv:=cv) (w':=w') ?_ (hK _ _ _ _ q2)
     simpa [Instr.alloc,zeroValue,nN hi,hz,Result.andThen] using q1
    ·cases ha
   ·cases hlow
  ·cases hlow
 ·-- box
  rename_i e x hop
  rw [Á] at hlow
  obtain ⟨y,h1,rfl⟩:=hlow
  simp only [cE] at ha
  split at ha
  ·rename_i hs
   split at ha
   ·rename_i hk
    cases ha
    obtain ⟨z1,z2⟩:=FW (bC r.globs r.frame h1) hk
    obtain ⟨cv,w',hd',q1,q2⟩:=TW (P:=P) r o.dst hdst site hs e (a.eval x) _ z1 z2
    exact eF (s:=Instr.box e (a.eval x)) (by simp [execOp,hop]) (by simpa [Instr.box] using q1) (hK _ _ _ _ q2)
   ·cases ha
  ·cases ha
 ·-- build
  rename_i t parts hop
  split at hlow
  ·rename_i i fs hi hu
   split at hlow
   ·rename_i z hz
    split at hlow
    ·rename_i zs ps h1 h2
     split at hlow
     ·rename_i hf
      cases hlow
      simp only [cE] at ha
      rw [Á] at ha
      obtain ⟨cs,q1,q2⟩:=ha
      cases q2
      obtain ⟨cv,q3,q4⟩:=aGD r hi hu hz h1 hf h2 q1
      refine eF (s:=Instr.build t (parts.map fun (i,x)=>(i,a.eval x))) (by simp [execOp,hop]) (cv:=cv) (w':=w) ?_ (hK _ _ _ _ (r.put0 o.dst _ _ hdst q4))
      have e:(parts.map fun x=>(x.1,a.eval x.2)) = (parts.toList.map fun x=>(x.1,a.eval x.2)).toArray:=by obtain ⟨l⟩:=parts; simp
      exact (ă (fun q=>(Instr.build t q).run P w) e).trans q3
     ·cases hlow
    ·cases hlow
   ·cases hlow
  ·rename_i i n e hi hu
   split at hlow
   ·rename_i z ei hz he
    split at hlow
    ·rename_i zs ps h1 h2
     cases hlow
     simp only [cE] at ha
     rw [Á] at ha
     obtain ⟨cs,q1,q2⟩:=ha
     cases q2
     obtain ⟨cv,q3,q4⟩:=aD0 r hi hu hz he h1 h2 q1
     refine eF (s:=Instr.build t (parts.map fun (i,x)=>(i,a.eval x))) (by simp [execOp,hop]) (cv:=cv) (w':=w) ?_ (hK _ _ _ _ (r.put0 o.dst _ _ hdst q4))
     have e:(parts.map fun x=>(x.1,a.eval x.2)) = (parts.toList.map fun x=>(x.1,a.eval x.2)).toArray:=by obtain ⟨l⟩:=parts; simp
     exact (ă (fun q=>(Instr.build t q).run P w) e).trans q3
    ·cases hlow
   ·cases hlow
  ·cases hlow
 ·-- buildSlice
  rename_i t len parts hop
  split at hlow
  ·rename_i e ht
   split at hlow
   ·rename_i i hi
    split at hlow
    ·rename_i z hz
     split at hlow
     ·rename_i zs h1
      split at hlow
      ·rename_i row ps h2 h3
       split at hlow
       ·rename_i hc
        obtain ⟨c1,c2,c3⟩:=hc
        cases hlow
        obtain ⟨cv,w',h',hd',q1,q2⟩:=SX r ht hi hz h1 h2 c1 c2 c3 h3 o.dst hdst ha
        refine eF (s:=Instr.buildSlice t len (parts.map fun (i,x)=>(i,a.eval x))) (by simp [execOp,hop]) (cv:=cv) (w':=w') ?_ (hK _ _ _ _ q2)
        have e:(parts.map fun x=>(x.1,a.eval x.2)) = (parts.toList.map fun x=>(x.1,a.eval x.2)).toArray:=by obtain ⟨l⟩:=parts; simp
        exact (ă (fun q=>(Instr.buildSlice t len q).run P w) e).trans q1
       ·cases hlow
      ·cases hlow
     ·cases hlow
    ·cases hlow
   ·cases hlow
  ·cases hlow
 ·-- load
  rename_i t x hop
  split at hlow
  ·rename_i b i x' h1 h2 h3
   cases hlow
   obtain ⟨rfl,cv,q1,q2⟩:=aEs r h1 h2 (bC r.globs r.frame h3) ha
   exact eF (s:=Instr.loadAt t (a.eval x)) (by simp [execOp,hop]) q1 (hK _ _ _ _ (r.put0 o.dst _ _ hdst q2))
  ·cases hlow
 ·-- store
  rename_i t x y hop
  split at hlow
  ·rename_i i x' y' h1 h2 h3
   cases hlow
   have hx:=bC r.globs r.frame h2
   have hy:=bC r.globs r.frame h3
   simp only [cE] at ha
   split at ha
   ·rename_i id off hev
    rw [hev] at hx
    split at ha
    ·rename_i cs hb
     split at ha
     ·rename_i hc
      obtain ⟨c1,c2,c3⟩:=hc
      cases ha
      obtain ⟨w',hd',q1,q2⟩:=aBw r h1 hx hy hb c1 c2 c3 o.dst hdst undef
      exact I9 (s:=Instr.storeAt t (a.eval x) (a.eval y)) (by simp [execOp,hop]) q1 (hK _ _ _ _ q2)
     ·cases ha
    ·cases ha
   ·rename_i id ver ii off hev
    rw [hev] at hx
    split at ha
    ·rename_i w1 e sz rows hb
     split at ha
     ·rename_i hv
      subst hv
      split at ha
      ·rename_i row ds hrow hds
       split at ha
       ·rename_i hc
        obtain ⟨c1,c2,hfz⟩:=hc
        cases ha
        obtain ⟨w',h',hd',q1,q2⟩:=aAb r h1 hx hy hb hrow hds hfz c1 c2 o.dst hdst undef
        exact I9 (s:=Instr.storeAt t (a.eval x) (a.eval y)) (by simp [execOp,hop]) q1 (hK _ _ _ _ q2)
       ·cases ha
      ·cases ha
     ·cases ha
    ·cases ha
   ·cases ha
  ·cases hlow
 ·-- nilCheck
  rename_i x hop
  rw [Á] at hlow
  obtain ⟨y,h1,rfl⟩:=hlow
  have hx:=bC r.globs r.frame h1
  simp only [cE] at ha
  have key:∀ (ad:Addr),a.eval x = .pointer (some ad)->R3 h hd bl (a.eval x) v->wr = []->o.wp P a w K Q:=by
   intro ad he hv hw
   subst hw
   exact eF (s:=pure (a.eval x)) (by simp [execOp,hop,he]) (by simp) (hK _ _ _ _ (r.put0 o.dst _ _ hdst hv))
  split at ha
  ·rename_i id off hev
   cases ha
   rw [hev] at hx
   obtain ⟨_,g,_,e⟩:=O3 hx
   exact key _ e hx rfl
  ·rename_i row off hev
   cases ha
   rw [hev] at hx
   have hx2:=hx
   obtain ⟨_,hr⟩ : D.atom _ = true ∧ a6 h (a.eval x) (.ptr row off):=hx
   generalize hq:a.eval x = q at hr
   cases hr with
   | ptr b o1 off n row cv hn hm hr ho=>exact key _ hq hx2 rfl
  ·rename_i id ver ii off hev
   rw [hev] at hx
   split at ha
   ·rename_i v1 e s rows hb
    split at ha
    ·rename_i hv
     cases ha
     subst hv
     have hx2:=hx
     obtain ⟨b,c,hb',hc,hle,h1',he⟩ : ∃ b c,bl id = some b ∧ b.ver? = some c ∧ ver <= c ∧ (a.eval x).oneCell' = true ∧ ∀ e size rows,b = .rows ver e size rows->∃ g b n c,hd id = .slice (some ⟨g,b,none⟩) n c ∧ a.eval x = .pointer (some ⟨g,b + (ii * size + off),none⟩):=hx
     rw [hb] at hb'
     cases hb'
     obtain ⟨g,_,n,c',_,e1⟩:=he e s rows rfl
     exact key _ e1 hx2 rfl
    ·cases ha
   ·cases ha
  ·cases ha
 ·-- binOp
  rename_i op t x y yt hop
  obtain ⟨d,rfl,rfl,cv,q1,q2,q3⟩:=aI6 r hlow ha
  exact eF (s:=do eqGuard op t x y (a.eval x) (a.eval y); binOp op t (a.eval x) (a.eval y)) (by simp [execOp,hop]) q1 (hK _ _ _ _ (r.put0 o.dst _ _ hdst ⟨q3,q2⟩))
 ·-- unOp
  rename_i op t x hop
  rw [Á] at hlow
  obtain ⟨y,h1,rfl⟩:=hlow
  simp only [cE,LA.v,Á] at ha
  obtain ⟨d,e1,e2⟩:=ha
  cases e2
  obtain ⟨cv,q1,q2,q3⟩:=aR8 (P:=P) (w:=w) (bC r.globs r.frame h1) e1
  exact eF (s:=Op.unary op (a.eval x)) (by simp [execOp,hop]) q1 (hK _ _ _ _ (r.put0 o.dst _ _ hdst ⟨q3,q2⟩))
 ·-- convert
  rename_i s d x hop
  split at hlow
  ·rename_i k1 k x' h1 h2 h3
   cases hlow
   have hx:=bC r.globs r.frame h3
   simp only [cE] at ha
   split at ha
   ·rename_i k2 n hev
    cases ha
    rw [hev] at hx
    refine eF (s:=convert s d (a.eval x)) (by simp [execOp,hop]) (cv:=.int k (k.wrap n)) (w':=w) ?_ (hK _ _ _ _ (r.put0 o.dst _ _ hdst ⟨rfl,.int _ _⟩))
    rw [mC hx]
    simp [convert,Ô h1,Ô h2,Conv.intToInt]
   ·cases ha
  ·rename_i e x' h1 h2 h3
   split at hlow
   ·rename_i he
    cases hlow
    have hx:=bC r.globs r.frame h3
    simp only [cE] at ha
    split at ha
    ·rename_i str hev
     cases ha
     rw [hev] at hx
     obtain ⟨cv,w',h',q1,q2,q3,q4,q5,q6⟩:=aIb r h1 h2 he str
     exact eF (s:=convert s d (a.eval x)) (by simp [execOp,hop]) (cv:=cv) (w':=w') (by rw [(EF hx).1]; exact q1) (hK _ _ _ _ (r.call o.dst hdst cv _ q2 q3 q4 q5 ⟨rfl,q6⟩))
    ·cases ha
   ·cases hlow
  ·cases hlow
 ·-- slice
  rename_i t x lo hi mx hop
  split at hlow
  ·cases hlow
  ·split at hlow
   ·rename_i e x' lo' hi' ht hx hlo hhi
    rw [Á] at hlow
    obtain ⟨i,hi1,rfl⟩:=hlow
    simp only [cE] at ha
    obtain ⟨l1,l2⟩:=JF r hlo
    obtain ⟨m1,m2⟩:=JF r hhi
    obtain ⟨cv,h',hd',q1,q2⟩:=aGE r ht hi1 (bC r.globs r.frame hx) l1 m1 l2 m2 o.dst hdst ha
    exact eF (s:=Instr.sliceAt t (a.eval x) (lo.map a.eval) (hi.map a.eval) none) (by simp [execOp,hop]) q1 (hK _ _ _ _ q2)
   ·rename_i x' lo' hi' ht hx hlo hhi
    cases hlow
    simp only [cE] at ha
    obtain ⟨l1,l2⟩:=JF r hlo
    obtain ⟨m1,m2⟩:=JF r hhi
    obtain ⟨rfl,cv,q1,q2⟩:=YG (P:=P) (w:=w) ht (bC r.globs r.frame hx) l1 m1 l2 m2 ha
    exact eF (s:=Instr.sliceAt t (a.eval x) (lo.map a.eval) (hi.map a.eval) none) (by simp [execOp,hop]) q1 (hK _ _ _ _ (r.put0 o.dst _ _ hdst q2))
   ·rename_i n e x' ht hx hlo hhi
    split at hlow
    ·rename_i i hi1
     split at hlow
     ·rename_i hsz
      cases hlow
      have hl:lo = none:=by cases lo with | none=>rfl | some q=>(simp only [X5,Á] at hlo; obtain ⟨_,_,q⟩:=hlo; cases q)
      have hh:hi = none:=by cases hi with | none=>rfl | some q=>(simp only [X5,Á] at hhi; obtain ⟨_,_,q⟩:=hhi; cases q)
      subst hl hh
      obtain ⟨rfl,cv,q1,q2⟩:=aDS (P:=P) (w:=w) ht hi1 hsz (bC r.globs r.frame hx) rfl ha
      exact eF (s:=Instr.sliceAt t (a.eval x) none none none) (by simp [execOp,hop]) q1 (hK _ _ _ _ (r.put0 o.dst _ _ hdst q2))
     ·cases hlow
    ·cases hlow
   ·cases hlow
 ·-- fieldAddr
  rename_i s x f hop
  split at hlow
  ·rename_i fs x' hs hx
   split at hlow
   ·rename_i fd hf
    split at hlow
    ·rename_i i hi
     split at hlow
     ·cases hlow
     ·rename_i hz
      cases hlow
      obtain ⟨rfl,cv,q1,q2⟩:=aFy r hs hf hi hz (bC r.globs r.frame hx) ha
      exact eF (s:=Instr.fieldAt s (a.eval x) f) (by simp [execOp,hop]) q1 (hK _ _ _ _ (r.put0 o.dst _ _ hdst q2))
    ·cases hlow
   ·cases hlow
  ·cases hlow
 ·-- field
  rename_i s x f hop
  split at hlow
  ·rename_i fs x' hs hx
   split at hlow
   ·rename_i fd hf
    split at hlow
    ·rename_i i b hi hb
     cases hlow
     have hxr:=bC r.globs r.frame hx
     simp only [cE] at ha
     split at ha
     ·rename_i cs hev
      rw [hev] at hxr
      obtain ⟨arr,he,h1,h2⟩:=NK hxr
      obtain ⟨rfl,cv,q1,q2⟩:=ZO (P:=P) (w:=w) hb hi h1 h2 ha
      refine eF (s:=Instr.field s (a.eval x) f) (by simp [execOp,hop]) (cv:=cv) (w':=w) ?_ (hK _ _ _ _ (r.put0 o.dst _ _ hdst q2))
      rw [he]
      simp [Instr.field,Ô hs,hf,asAgg,q1]
     ·cases ha
    ·cases hlow
   ·cases hlow
  ·cases hlow
 ·-- indexAddr
  rename_i t x j hop
  split at hlow
  ·rename_i e x' j' ht hx hj
   rw [Á] at hlow
   obtain ⟨i,hi,rfl⟩:=hlow
   obtain ⟨rfl,cv,q1,q2⟩:=aGf ht hi r (bC r.globs r.frame hx) (bC r.globs r.frame hj) ha
   exact eF (s:=Instr.indexAt t (a.eval x) (a.eval j)) (by simp [execOp,hop]) q1 (hK _ _ _ _ (r.put0 o.dst _ _ hdst q2))
  ·rename_i n e x' k q ht hx hj
   split at hlow
   ·rename_i i hi
    split at hlow
    ·rename_i hc
     obtain ⟨c1,c2,c3⟩:=hc
     cases hlow
     have hjr:=bC r.globs r.frame hj
     obtain ⟨rfl,cv,q1,q2⟩:=aBk r ht hi c1 c2 (mC hjr) (bC r.globs r.frame hx) ha
     exact eF (s:=Instr.indexAt t (a.eval x) (a.eval j)) (by simp [execOp,hop]) q1 (hK _ _ _ _ (r.put0 o.dst _ _ hdst q2))
    ·cases hlow
   ·cases hlow
  ·rename_i n e x' j' _ ht hx hj
   split at hlow
   ·rename_i i hi
    split at hlow
    ·cases hlow
     obtain ⟨rfl,cv,q1,q2⟩:=YP r ht hi (bC r.globs r.frame hx) (bC r.globs r.frame hj) ha
     exact eF (s:=Instr.indexAt t (a.eval x) (a.eval j)) (by simp [execOp,hop]) q1 (hK _ _ _ _ (r.put0 o.dst _ _ hdst q2))
    ·cases hlow
   ·cases hlow
  ·cases hlow
 ·-- index
  rename_i t x j hop
  split at hlow
  ·rename_i x' j' ht hx hj
   cases hlow
   obtain ⟨rfl,cv,q1,q2⟩:=aB3 (P:=P) (w:=w) ht (bC r.globs r.frame hx) (bC r.globs r.frame hj) ha
   exact eF (s:=Instr.index t (a.eval x) (a.eval j)) (by simp [execOp,hop]) q1 (hK _ _ _ _ (r.put0 o.dst _ _ hdst q2))
  ·rename_i n e x' j' ht hx hj
   split at hlow
   ·rename_i ep i he hi
    split at hlow
    ·rename_i hz
     cases hlow
     obtain ⟨rfl,cv,q1,q2⟩:=aLP (P:=P) (w:=w) ht he hi hz (bC r.globs r.frame hx) (bC r.globs r.frame hj) ha
     exact eF (s:=Instr.index t (a.eval x) (a.eval j)) (by simp [execOp,hop]) q1 (hK _ _ _ _ (r.put0 o.dst _ _ hdst q2))
    ·cases hlow
   ·cases hlow
  ·cases hlow
 ·-- extract
  rename_i x n hop
  rw [Á] at hlow
  obtain ⟨y,h1,rfl⟩:=hlow
  obtain ⟨rfl,cv,q1,q2⟩:=aAu (P:=P) (w:=w) (bC r.globs r.frame h1) ha
  exact eF (s:=Instr.extract (a.eval x) n) (by simp [execOp,hop]) q1 (hK _ _ _ _ (r.put0 o.dst _ _ hdst q2))
 ·-- makeSlice
  rename_i t l c hop
  split at hlow
  ·rename_i e l' c' ht hl hc
   split at hlow
   ·rename_i i hi
    split at hlow
    ·rename_i z hz
     split at hlow
     ·rename_i zs h1
      split at hlow
      ·rename_i row h2
       split at hlow
       ·rename_i hcnd
        cases hlow
        obtain ⟨cv,w',hd',q1,q2⟩:=aJF r ht hi hz hcnd.1 hcnd.2 h1 h2 (bC r.globs r.frame hl) (bC r.globs r.frame hc) o.dst hdst ha
        exact eF (s:=Instr.makeSlice t (a.eval l) (a.eval c)) (by simp [execOp,hop]) q1 (hK _ _ _ _ q2)
       ·cases hlow
      ·cases hlow
     ·cases hlow
    ·cases hlow
   ·cases hlow
  ·cases hlow
 ·-- makeMap
  rename_i t rsv hop
  split at hlow
  ·split at hlow
   ·rename_i z hz
    obtain ⟨k,e,ek⟩:=z
    cases hlow
    obtain ⟨w',hd',cv,q1,q2⟩:=aF7 hz r o.dst hdst ha
    exact eF (s:=Instr.makeMap t none) (by simp [execOp,hop]) q1 (hK _ _ _ _ q2)
   ·split at hlow
    ·rename_i z hz
     cases hlow
     obtain ⟨w',hd',cv,q1,q2⟩:=aDP (P:=P) (t:=t) r o.dst hdst ha
     exact eF (s:=Instr.makeMap t none) (by simp [execOp,hop]) q1 (hK _ _ _ _ q2)
    ·cases hlow
  ·cases hlow
 ·-- mapUpdate
  rename_i t m k v' hop
  split at hlow
  ·rename_i m' k' x' hm hk hx
   split at hlow
   ·rename_i z hz
    obtain ⟨kt,e,ek⟩:=z
    cases hlow
    obtain ⟨w',hd',q1,q2⟩:=Y9 hz r (bC r.globs r.frame hm) (bC r.globs r.frame hk) (bC r.globs r.frame hx) o.dst hdst undef ha
    exact I9 (s:=Instr.mapUpdate t (a.eval m) (a.eval k) (a.eval v')) (by simp [execOp,hop]) q1 (hK _ _ _ _ q2)
   ·split at hlow
    ·rename_i z hz
     obtain ⟨kt,e⟩:=z
     cases hlow
     obtain ⟨w',hd',q1,q2⟩:=W2 hz r (bC r.globs r.frame hm) (bC r.globs r.frame hk) (bC r.globs r.frame hx) o.dst hdst undef ha
     exact I9 (s:=Instr.mapUpdate t (a.eval m) (a.eval k) (a.eval v')) (by simp [execOp,hop]) q1 (hK _ _ _ _ q2)
    ·cases hlow
  ·cases hlow
 ·-- insert
  rename_i t m k v' hop
  split at hlow
  ·rename_i m' k' x' hm hk hx
   split at hlow
   ·rename_i z hz
    obtain ⟨kt,e,ek⟩:=z
    cases hlow
    obtain ⟨w',hd',q1,q2⟩:=Y9 hz r (bC r.globs r.frame hm) (bC r.globs r.frame hk) (bC r.globs r.frame hx) o.dst hdst undef ha
    exact I9 (s:=Instr.mapUpdate t (a.eval m) (a.eval k) (a.eval v')) (by simp [execOp,hop]) q1 (hK _ _ _ _ q2)
   ·split at hlow
    ·rename_i z hz
     obtain ⟨kt,e⟩:=z
     cases hlow
     obtain ⟨w',hd',q1,q2⟩:=W2 hz r (bC r.globs r.frame hm) (bC r.globs r.frame hk) (bC r.globs r.frame hx) o.dst hdst undef ha
     exact I9 (s:=Instr.mapUpdate t (a.eval m) (a.eval k) (a.eval v')) (by simp [execOp,hop]) q1 (hK _ _ _ _ q2)
    ·cases hlow
  ·cases hlow
 ·-- lookup
  rename_i t m k ok hop
  split at hlow
  ·rename_i m' k' hm hk
   split at hlow
   ·rename_i z hz
    obtain ⟨kt,e,ek⟩:=z
    cases hlow
    obtain ⟨cv,q1,q2⟩:=aMq hz r (bC r.globs r.frame hm) (bC r.globs r.frame hk) o.dst hdst ha
    exact eF (s:=Instr.lookup t (a.eval m) (a.eval k) false) (by simp [execOp,hop]) q1 (hK _ _ _ _ q2)
   ·split at hlow
    ·rename_i z hz
     obtain ⟨kt,e⟩:=z
     cases hlow
     obtain ⟨cv,q1,q2⟩:=aHA hz r (bC r.globs r.frame hm) (bC r.globs r.frame hk) o.dst hdst ha
     exact eF (s:=Instr.lookup t (a.eval m) (a.eval k) false) (by simp [execOp,hop]) q1 (hK _ _ _ _ q2)
    ·cases hlow
  ·cases hlow
 ·-- makeFunc
  rename_i fn first captured hop
  split at hlow
  ·rename_i f
   split at hlow
   ·rename_i hfirst
    rw [Á] at hlow
    obtain ⟨caps,h1,rfl⟩:=hlow
    simp only [cE] at ha
    split at ha
    ·cases ha
    ·rename_i ds hds
     cases ha
     obtain ⟨m1,m2⟩:=bP h1
     obtain ⟨n1,n2⟩:=bP hds
     have hok:wX bl (caps.flatMap fun x=>CP bl (bN fr x)):=wX.flatMap1 caps fun x=>bN fr x
     have hfe:first = #[]:=by simpa using hfirst
     subst hfe
     refine eF (s:=Instr.makeFunc (.func f) #[] (captured.map a.eval)) (cv:=.func (.func f) #[] (captured.map a.eval)) (w':=w) (by simp [execOp,hop]) (by simp [Instr.makeFunc]) (hK _ _ _ _ ((r.freeze _ hok).put0 o.dst _ _ hdst ⟨rfl,.fn f (captured.map a.eval) ds (by simp at m1 ⊢; omega) ?_⟩))
     intro j d hj
     obtain ⟨y,y1,y2⟩:=bU hds hj
     obtain ⟨z,z1,z2⟩:=bU h1 y1
     have z1' : captured[j]? = some z:=by simpa using z1
     have e3:(captured.map a.eval).getD j undef = a.eval z:=by simp [z1']
     rw [e3]
     have h3:=bC r.globs r.frame z2
     refine (nB r _ (x:=bN fr y) ?_ y2 fun p hp=>Î.2 ⟨y,Ê y1,hp⟩).1
     generalize bN fr y = yy at h3 y2
     cases yy with
     | tup vs=>cases y2
     | agg cs=>cases y2
     | _=>exact h3
   ·cases hlow
  ·cases hlow
 ·-- calls
  rename_i c hop
  have hargs:∀ {l:List bO},aT iA c.args.toList = some l->(c.args.map a.eval).size = l.length ∧ ∀ (j:Nat) (y:bO),l[j]? = some y->R3 h hd bl ((c.args.map a.eval).getD j undef) (bN fr y):=by
   intro l e
   obtain ⟨m1,m2⟩:=bP e
   refine ⟨by simpa using m1,fun j y hy=>?_⟩
   obtain ⟨x,x1,x2⟩:=bU e hy
   have x1' : c.args[j]? = some x:=by simpa using x1
   have:(c.args.map a.eval).getD j undef = a.eval x:=by simp [x1']
   rw [this]
   exact bC r.globs r.frame x2
  split at hlow
  ·-- a function
   rename_i f hcal
   split at hlow
   ·rename_i fn args hfn hl
    split at hlow
    ·rename_i hcnd
     obtain ⟨c1,c2⟩:=hcnd
     cases hlow
     simp only [cE] at ha
     split at ha
     ·cases ha
     ·rename_i ds hds
      split at ha
      ·cases ha
      ·rename_i x hCx
       obtain ⟨a1,a2⟩:=hargs hl
       obtain ⟨m1,m2⟩:=bP hds
       have hexec:(execOp a.eval o).run P w = .ok (.enter f (c.args.map a.eval)) w:=by
        obtain ⟨bd,hbd⟩:=ü.1 c2
        have c1' : (fn.name == "runtime.NumGoroutine") = false:=by simpa using c1
        have e2:c.args.map a.eval ++ #[] = c.args.map a.eval:=by simp
        simp [execOp,hop,resolve,hcal,Act.eval,Deferred.ofValue,invoke,callFunc,hfn,c1,hbd]
       have hpl:kG 0 ds = none:=EK ds 0 fun d hd=>by
        obtain ⟨i,hi⟩:=æ.1 hd
        obtain ⟨y,y1,y2⟩:=bU hds hi
        exact JJ r (a2 i y y1) y2
       refine WO r ((hC f ds x hCx).1 hpl) hdst hexec ha (wX.flatMap args fun x=>bN fr x) (by omega) (by
        intro i d hi
        obtain ⟨y,y1,y2⟩:=bU hds hi
        have h3:=a2 i y y1
        refine oL r _ ?_ y2 fun p hp=>Î.2 ⟨y,Ê y1,hp⟩
        generalize bN fr y = yy at h3 y2
        cases yy with
        | tup vs=>cases y2
        | _=>exact h3) hK
    ·cases hlow
   ·cases hlow
  ·-- a function value
   rename_i g hnf hcal
   split at hlow
   ·rename_i x' args hx hl
    cases hlow
    simp only [cE] at ha
    split at ha
    ·rename_i f caps hev
     split at ha
     ·cases ha
     ·rename_i ds hds
      split at ha
      ·cases ha
      ·rename_i x hCx
       obtain ⟨a1,a2⟩:=hargs hl
       obtain ⟨m1,m2⟩:=bP hds
       have hg:=bC r.globs r.frame hx
       rw [hev] at hg
       obtain ⟨_,hg⟩ : D.atom _ = true ∧ a6 h (a.eval g) (.fn f caps):=hg
       obtain ⟨arr,hge,hgl,hgr⟩ : ∃ arr:Array Value,a.eval g = .func (.func f) #[] arr ∧ arr.size = caps.length ∧ ∀ (j:Nat) (x:D),caps[j]? = some x->a6 h (arr.getD j undef) x:=by
        generalize a.eval g = q at hg
        cases hg with
        | fn f arr cs hl hr=>exact ⟨arr,rfl,hl,hr⟩
       have hS:=(hC f _ x hCx).1 (EK _ 0 fun d hd=>by
        rcases Ó.1 hd with hd | hd
        ·obtain ⟨i,hi⟩:=æ.1 hd
         obtain ⟨y,y1,y2⟩:=bU hds hi
         exact JJ r (a2 i y y1) y2
        ·obtain ⟨i,hi⟩:=æ.1 hd
         exact SM (hgr i d hi))
       have hS2:=hS
       obtain ⟨⟨fn,g1,g2,g3⟩,_⟩:=hS2
       have hexec:(execOp a.eval o).run P w = .ok (.enter f (c.args.map a.eval ++ arr)) w:=by
        obtain ⟨bd,hbd⟩:=ü.1 g3
        have g2' : (fn.name == "runtime.NumGoroutine") = false:=by simpa using g2
        simp [execOp,hop,resolve,hcal,hge,Deferred.ofValue,invoke,callFunc,g1,g2,hbd]
       refine WO r hS hdst hexec ha (wX.flatMap args fun x=>bN fr x) (by simp only [ę,ß]; omega) (by
        intro i d hi
        rw [List.getElem?_append] at hi
        by_cases hlt:i < ds.length
        ·rw [Â hlt] at hi
         obtain ⟨y,y1,y2⟩:=bU hds hi
         have h3:=a2 i y y1
         have e3:(c.args.map a.eval ++ arr).getD i undef = (c.args.map a.eval).getD i undef:=by
          simp only [É]
          rw [ù (by omega)]
         rw [e3]
         refine oL r _ ?_ y2 fun p hp=>Î.2 ⟨y,Ê y1,hp⟩
         generalize bN fr y = yy at h3 y2
         cases yy with
         | tup vs=>cases y2
         | _=>exact h3
        ·rw [Ã hlt] at hi
         have e3:(c.args.map a.eval ++ arr).getD i undef = arr.getD (i - ds.length) undef:=by
          simp only [É]
          rw [Ě (by omega)]
          congr 3
          omega
         rw [e3]
         exact (hgr _ d hi).mono (uK r _)) hK
    ·cases ha
   ·cases hlow
  ·-- len
   rename_i hcal
   split at hlow
   ·rename_i x t hca hct
    have hca:c.args = #[x]:=by rw [← Ú (xs:=c.args),hca]
    have hct:c.argTypes = #[t]:=by rw [← Ú (xs:=c.argTypes),hct]
    split at hlow
    ·rename_i x' ht hx
     cases hlow
     obtain ⟨rfl,cv,q1,q2⟩:=aK0 (P:=P) (w:=w) (ty:=o.type) ht (bC r.globs r.frame hx) ha
     exact eF (s:=Builtin.len_ #[t] o.type #[a.eval x]) (by simp [execOp,hop,resolve,hcal,hca,hct,invoke,builtin]) q1 (hK _ _ _ _ (r.put0 o.dst _ _ hdst q2))
    ·rename_i e x' ht hx
     cases hlow
     obtain ⟨rfl,cv,q1,q2⟩:=aP1 (P:=P) (ty:=o.type) r ht (bC r.globs r.frame hx) ha
     exact eF (s:=Builtin.len_ #[t] o.type #[a.eval x]) (by simp [execOp,hop,resolve,hcal,hca,hct,invoke,builtin]) q1 (hK _ _ _ _ (r.put0 o.dst _ _ hdst q2))
    ·cases hlow
   ·cases hlow
  ·-- append
   rename_i hcal
   split at hlow
   ·rename_i x y t u hca hct
    have hca:c.args = #[x,y]:=by rw [← Ú (xs:=c.args),hca]
    have hct:c.argTypes = #[t,u]:=by rw [← Ú (xs:=c.argTypes),hct]
    split at hlow
    ·rename_i htu
     subst htu
     split at hlow
     ·rename_i e x' y' ht hx hy
      split at hlow
      ·rename_i i hi
       split at hlow
       ·rename_i z hz
        split at hlow
        ·rename_i hcnd
         obtain ⟨c1,c2,c3⟩:=hcnd
         cases hlow
         obtain ⟨cv,w',hd',q1,q2⟩:=aDr (ty:=o.type) r ht hi hz c1 c2 c3 (bC r.globs r.frame hx) (bC r.globs r.frame hy) o.dst hdst ha
         exact eF (s:=Builtin.append_ #[t,t] o.type #[a.eval x,a.eval y]) (by simp [execOp,hop,resolve,hcal,hca,hct,invoke,builtin]) q1 (hK _ _ _ _ q2)
        ·cases hlow
       ·cases hlow
      ·cases hlow
     ·cases hlow
    ·cases hlow
   ·cases hlow
  ·-- clear
   rename_i hcal
   split at hlow
   ·rename_i x t hca hct
    have hca:c.args = #[x]:=by rw [← Ú (xs:=c.args),hca]
    have hct:c.argTypes = #[t]:=by rw [← Ú (xs:=c.argTypes),hct]
    split at hlow
    ·rename_i e x' ht hx
     split at hlow
     ·rename_i i hi
      split at hlow
      ·rename_i z hz
       split at hlow
       ·rename_i zs h1
        split at hlow
        ·rename_i row h2
         split at hlow
         ·rename_i hcnd
          cases hlow
          obtain ⟨w',hd',q1,q2⟩:=aGT (ty:=o.type) r ht hi hz hcnd.1 hcnd.2 h1 h2 (bC r.globs r.frame hx) o.dst hdst ha
          exact eF (s:=Builtin.clear_ #[t] o.type #[a.eval x]) (by simp [execOp,hop,resolve,hcal,hca,hct,invoke,builtin]) q1 (hK _ _ _ _ q2)
         ·cases hlow
        ·cases hlow
       ·cases hlow
      ·cases hlow
     ·cases hlow
    ·cases hlow
   ·cases hlow
  ·-- delete
   rename_i hcal
   split at hlow
   ·rename_i m k t u hca hct
    have hca:c.args = #[m,k]:=by rw [← Ú (xs:=c.args),hca]
    have hct:c.argTypes = #[t,u]:=by rw [← Ú (xs:=c.argTypes),hct]
    split at hlow
    ·rename_i z m' k' hz hm hk
     obtain ⟨kt,e,ek⟩:=z
     split at hlow
     ·rename_i hu
      cases hlow
      cases hu
      obtain ⟨w',hd',q1,q2⟩:=aL6 (ty:=o.type) hz r (bC r.globs r.frame hm) (bC r.globs r.frame hk) o.dst hdst ha
      exact eF (s:=Builtin.delete_ #[t,kt] o.type #[a.eval m,a.eval k]) (by simp [execOp,hop,resolve,hcal,hca,hct,invoke,builtin]) q1 (hK _ _ _ _ q2)
     ·cases hlow
    ·cases hlow
   ·cases hlow
  ·-- max
   rename_i hcal
   rw [Á] at hlow
   obtain ⟨l,h1,rfl⟩:=hlow
   simp only [cE,LA.v,Á] at ha
   obtain ⟨d,e1,e2⟩:=ha
   cases e2
   obtain ⟨a1,a2⟩:=hargs h1
   obtain ⟨cv,q1,q2,q3⟩:=aOl (P:=P) (w:=w) (h:=h) (hd:=hd) (bl:=bl) (c.args.map a.eval).toList (l.map (bN fr)) d (by simpa using a1.symm) (fun j y hy=>by
    rw [Ç,Á] at hy
    obtain ⟨z,z1,rfl⟩:=hy
    simpa using a2 j z z1) e1 c.argTypes o.type
   refine eF (s:=Builtin.max_ c.argTypes o.type (c.args.map a.eval)) (by simp [execOp,hop,resolve,hcal,invoke,builtin]) (cv:=cv) (w':=w) ?_ (hK _ _ _ _ (r.put0 o.dst _ _ hdst ⟨q3,q2⟩))
   rw [Ú] at q1
   exact q1
  ·-- min
   rename_i hcal
   rw [Á] at hlow
   obtain ⟨l,h1,rfl⟩:=hlow
   simp only [cE,LA.v,Á] at ha
   obtain ⟨d,e1,e2⟩:=ha
   cases e2
   obtain ⟨a1,a2⟩:=hargs h1
   obtain ⟨cv,q1,q2,q3⟩:=aPy (P:=P) (w:=w) (h:=h) (hd:=hd) (bl:=bl) (c.args.map a.eval).toList (l.map (bN fr)) d (by simpa using a1.symm) (fun j y hy=>by
    rw [Ç,Á] at hy
    obtain ⟨z,z1,rfl⟩:=hy
    simpa using a2 j z z1) e1 c.argTypes o.type
   refine eF (s:=Builtin.min_ c.argTypes o.type (c.args.map a.eval)) (by simp [execOp,hop,resolve,hcal,invoke,builtin]) (cv:=cv) (w':=w) ?_ (hK _ _ _ _ (r.put0 o.dst _ _ hdst ⟨q3,q2⟩))
   rw [Ú] at q1
   exact q1
  ·cases hlow
 ·cases hlow
theorem Z1 {o:Oper} {size:Nat} {x:bO} {lo hi:Option bO} (h:xV P o = .slice size x lo hi) :
  ∃ (t e:TypeId) (i:TypeInfo) (xo:Operand) (lov hiv:Option Operand),o.op = .slice t xo lov hiv none ∧ P.underlying t = some (.slice e) ∧ P.info? e = some i ∧ i.size = size ∧ iA xo = some x ∧ X5 lov = some lo ∧ X5 hiv = some hi:=by
 unfold xV at h
 cases hl:BX P o with
 | none=>rw [hl] at h; cases h
 | some so =>
  rw [hl] at h
  simp only [è] at h
  subst h
  unfold BX at hl
  cases hop:o.op with
  | slice t xo lov hiv mx =>
   rw [hop] at hl
   simp only at hl
   split at hl
   ·cases hl
   ·split at hl
    ·rename_i e x' lo' hi' ht hx hlo hhi
     rw [Á] at hl
     obtain ⟨i,hi1,q⟩:=hl
     cases q
     exact ⟨t,e,i,xo,lov,hiv,rfl,ht,hi1,rfl,hx,hlo,hhi⟩
    ·cases hl
    ·split at hl
     ·split at hl <;> cases hl
     ·cases hl
    ·cases hl
  | _ =>
   rw [hop] at hl
   simp only at hl
   try unfold LZ at hl
   repeat' (first | (cases hl; done) | (rw [Á] at hl; obtain ⟨_,_,e⟩:=hl; cases e; done) | split at hl)
theorem aRi (r:Rl nt w0 h0 fr bl a w h hd) (o:Oper) {size:Nat} {x:bO} {lo hi:Option bO} (hlow:xV P o = .slice size x lo hi) (hdst:GB nt w0 o.dst)
  {C:Nat->List D->Option D} {site:Nat} {v:V} {wr:List (Nat × Option aO)} (ha:cE C site (bN fr) bl (.cut size x lo hi) = some (v,wr)) {K:Act->World->Prop} {Q:Exit->Act->World->Prop}
  (hK:∀ a' w' h' hd',Rl nt w0 h0 (fB fr o.dst v) (bQ bl wr) a' w' h' hd'->K a' w'):o.wp P a w K Q:=by
 obtain ⟨t,e,i,xo,lov,hiv,hop,ht,hi1,rfl,hx,hlo,hhi⟩:=Z1 hlow
 obtain ⟨l1,m1⟩:=JF r hlo
 obtain ⟨l2,m2⟩:=JF r hhi
 simp only [cE] at ha
 obtain ⟨cv,hd',g1,g2⟩:=aOJ r ht hi1 (bC r.globs r.frame hx) l1 l2 m1 m2 o.dst hdst ha
 exact eF (s:=Instr.sliceAt t (a.eval xo) (lov.map a.eval) (hiv.map a.eval) none) (by simp [execOp,hop]) g1 (hK _ _ _ _ g2)
theorem aPF {C:Nat->List D->Option D} (hC:rW P C) (r:Rl nt w0 h0 fr bl a w h hd) (o:Oper) {f t:Nat} {args:List bO} (hlow:xV P o = .call f args) (hdst:GB nt w0 o.dst)
  {site:Nat} {v:V} {wr:List (Nat × Option aO)} (ha:cE C site (bN fr) bl (.lend f args t) = some (v,wr)) {K:Act->World->Prop} {Q:Exit->Act->World->Prop}
  (hK:∀ a' w' h' hd',Rl nt w0 h0 (fB fr o.dst v) (bQ bl wr) a' w' h' hd'->K a' w'):o.wp P a w K Q:=by
 obtain ⟨c,fn,hop,hcal,hfn,hl,c1,c2⟩:=S1 hlow
 obtain ⟨m1,m2⟩:=bP hl
 have a1:(c.args.map a.eval).size = args.length:=by simpa using m1
 have a2:∀ (j:Nat) (y:bO),args[j]? = some y->R3 h hd bl ((c.args.map a.eval).getD j undef) (bN fr y):=fun j y hy=>by
  obtain ⟨x,x1,x2⟩:=bU hl hy
  have x1' : c.args[j]? = some x:=by simpa using x1
  have:(c.args.map a.eval).getD j undef = a.eval x:=by simp [x1']
  rw [this]
  exact bC r.globs r.frame x2
 have hexec:(execOp a.eval o).run P w = .ok (.enter f (c.args.map a.eval)) w:=by
  obtain ⟨bd,hbd⟩:=ü.1 c2
  have c1' : (fn.name == "runtime.NumGoroutine") = false:=by simpa using c1
  simp [execOp,hop,resolve,hcal,Act.eval,Deferred.ofValue,invoke,callFunc,hfn,c1,hbd]
 simp only [cE] at ha
 split at ha
 ·rename_i id ver hlent
  split at ha
  ·cases ha
  ·rename_i ds hds
   split at ha
   ·rename_i hni
    split at ha
    ·rename_i y e size rows' hCx
     split at ha
     ·rename_i vv e' size' rows hb
      split at ha
      ·rename_i hc
       obtain ⟨rfl,rfl,rfl,hfy,hfr⟩:=hc
       cases ha
       obtain ⟨n1,n2⟩:=WZ hds
       have hsz:(c.args.map a.eval).size = ds.length:=by rw [a1,← n1]; simp
       obtain ⟨dt,t1,t2⟩:=n2 t _ hlent
       rw [Ċ,Â rfl] at t2
       simp only [OB,hb,Ë,Ä] at t2
       subst t2
       have hother:∀ (i:Nat) (d:D),i ≠ t->ds[i]? = some d->∃ y,args[i]? = some y ∧ iX bl (bN fr y) = some d:=fun i d hi hd=>by
        have hlt:i < (args.map (bN fr)).length:=by rw [n1]; exact (Å.1 hd).1
        have hlt' : i < args.length:=by simpa using hlt
        obtain ⟨d',q1,q2⟩:=n2 i _ (Ü hlt)
        rw [Ċ,Ã hi] at q2
        rw [hd] at q1
        cases q1
        exact ⟨args[i],by simp [hlt'],by simpa using q2⟩
       have hat:kG 0 ds = some t:=by
        have:=Q0 ds 0 t _ t1 rfl (fun j x hj hx=>by
         obtain ⟨y,hy,q⟩:=hother j x (by omega) hx
         exact JJ r (a2 j y hy) q)
        simpa using this
       have hS:=(hC f ds _ hCx).2 t hat
       have hok:=V6 (bl:=bl) (t:=t) (args.map (bN fr)) 0
       have hr:=r.freeze _ hok
       obtain ⟨xt,xt1,xt2⟩ : ∃ x,args[t]? = some x ∧ bN fr x = .own id ver:=by
        rw [Ç,Á] at hlent
        exact hlent
       have hvt:(c.args.map a.eval).getD t undef = hd id:=by
        have h3:=a2 t xt xt1
        rw [xt2] at h3
        obtain ⟨b,cc,g1,g2,g3,g4,g5⟩ : ∃ b c',bl id = some b ∧ b.ver? = some c' ∧ ver <= c' ∧ _ ∧ (ver = c'->_ = hd id):=h3
        rw [hb] at g1
        cases g1
        simp only [aO.ver?,Ä] at g2
        exact g5 g2
       have hb1:bQ bl (uO bl t 0 (args.map (bN fr))) id = some (.rows ver e size rows):=by
        have hn:=SK hni
        unfold bQ
        rcases GG (uO bl t 0 (args.map (bN fr))) (bl id) id with q | ⟨p,q1,q2,q3⟩
        ·rw [q]; exact hb
        ·exact absurd q2 (hn p q1)
       obtain ⟨k1,k2,k3,k4⟩:=hr.blk id _ hb1
       have hcalls:=hS.2 e size rows rows' y t1 rfl w _ (c.args.map a.eval) (MN r _) hsz (fun i d hi hdi=>by
        obtain ⟨z,z1,z2⟩:=hother i d hi hdi
        have h3:=a2 i z z1
        refine oL r _ ?_ z2 fun p hp=>SR (t:=t) (args.map (bN fr)) 0 i (bN fr z) (by rw [Ç,z1]; rfl) (by omega) p hp
        generalize bN fr z = zz at h3 z2
        cases zz with
        | tup vs=>cases z2
        | _=>exact h3) (by rw [hvt]; exact ⟨k1,k2,k3,fun g hg=>(k4 g hg).1⟩) (r.globs.mono (uK r _))
       unfold Oper.wp
       rw [hexec]
       simp only [Oper.upon]
       refine hcalls.mono ?_
       rintro en w' ⟨cv,h',rfl,g1,g2,g3,g4,g5⟩
       rw [hvt] at g2 g5
       simp only
       exact hK _ _ h hd (r.lent o.dst hdst cv hb g5 g2 g1 hfy hfr)
      ·cases ha
     ·cases ha
    ·cases ha
   ·cases ha
 ·cases ha
theorem FF {hd:Nat->Value} {bl:Nat->Option aO} {v:Value} {d:D} (hc:W8 d = true) (k:Hp) (site:Nat) (r:R1 h hd bl v (aAY site d)):R1 k hd bl v (aAY site d):=by
 cases d with
 | ref n=>exact r
 | mref n=>exact r
 | int kk n=>exact ⟨r.1,BI r.2 rfl k⟩
 | bool b=>exact ⟨r.1,BI r.2 rfl k⟩
 | str s=>exact ⟨r.1,BI r.2 rfl k⟩
 | _=>simp [W8,HV] at hc
theorem DM {hd:Nat->Value} {bl:Nat->Option aO} {v:Value} {d:D} (hc:aAA d = true) (k:Hp) (site:Nat) (r:R2 h hd bl v (WW site d)):R2 k hd bl v (WW site d):=by
 cases d with
 | agg cs =>
  obtain ⟨arr,e,hs,hr⟩:=r
  refine ⟨arr,e,hs,fun j x hx=>?_⟩
  have:=hr j x hx
  rw [Ç,Á] at hx
  obtain ⟨y,hy,rfl⟩:=hx
  exact ⟨FF (Ì.1 hc y (Ê hy)) k site this.1,this.2⟩
 | ref n=>exact FF (h:=h) (hd:=hd) (bl:=bl) (v:=v) (d:=.ref n) rfl k site r
 | mref n=>exact FF (h:=h) (hd:=hd) (bl:=bl) (v:=v) (d:=.mref n) rfl k site r
 | int kk n=>exact FF (h:=h) (hd:=hd) (bl:=bl) (v:=v) (d:=.int kk n) rfl k site r
 | bool b=>exact FF (h:=h) (hd:=hd) (bl:=bl) (v:=v) (d:=.bool b) rfl k site r
 | str s=>exact FF (h:=h) (hd:=hd) (bl:=bl) (v:=v) (d:=.str s) rfl k site r
 | _=>simp [aAA,W8,HV] at hc
theorem aKm {hd:Nat->Value} {bl:Nat->Option aO} {v:Value} {d:D} (hc:aEZ d = true) (k:Hp) (site:Nat) (r:R3 h hd bl v (thaw site d)):R3 k hd bl v (thaw site d):=by
 cases d with
 | tup vs =>
  obtain ⟨arr,e,hs,hr⟩:=r
  refine ⟨arr,e,hs,fun j x hx=>?_⟩
  have:=hr j x hx
  rw [Ç,Á] at hx
  obtain ⟨y,hy,rfl⟩:=hx
  exact DM (Ì.1 hc y (Ê hy)) k site this
 | agg cs=>exact DM (h:=h) (hd:=hd) (bl:=bl) (v:=v) (d:=.agg cs) hc k site r
 | ref n=>exact DM (h:=h) (hd:=hd) (bl:=bl) (v:=v) (d:=.ref n) rfl k site r
 | mref n=>exact DM (h:=h) (hd:=hd) (bl:=bl) (v:=v) (d:=.mref n) rfl k site r
 | int kk n=>exact DM (h:=h) (hd:=hd) (bl:=bl) (v:=v) (d:=.int kk n) rfl k site r
 | bool b=>exact DM (h:=h) (hd:=hd) (bl:=bl) (v:=v) (d:=.bool b) rfl k site r
 | str s=>exact DM (h:=h) (hd:=hd) (bl:=bl) (v:=v) (d:=.str s) rfl k site r
 | _=>simp [aEZ,aAA,W8,HV] at hc
theorem ZA {k:Hp} {size:Nat} {rows:List (List D)} {xs:List Value} (hf:rN rows = true) (r:jE h size rows xs):jE k size rows xs:=fun i row hi =>
 ⟨(r i row hi).1,fun j x hx=>⟨((r i row hi).2 j x hx).1,by
  obtain ⟨u,h1,h2⟩:=((r i row hi).2 j x hx).2
  exact ⟨u,h1,BI h2 (Ì.1 (Ì.1 hf row (Ê hi)) x (Ê hx)) k⟩⟩⟩
theorem RM (site:Nat):∀ (es:List (Nat × Nat)) (rs:List (List (List D))) (n:Nat),∀ p ∈ gY site n es rs,∃ e size rows,p.2 = some (B7 e size rows) ∧ rows ∈ rs
 | [],rs,n,p,hp=>by simp [gY] at hp
 | (e,size) :: es,[],n,p,hp=>by simp [gY] at hp
 | (e,size) :: es,rows :: rs,n,p,hp=>by
  simp only [gY,Û] at hp
  rcases hp with rfl | hp
  ·exact ⟨_,_,_,rfl,ò ..⟩
  ·obtain ⟨e,size,rows,h1,h2⟩:=RM site es rs (n + 1) p hp
   exact ⟨e,size,rows,h1,Ý _ h2⟩
theorem aM2 {C:Nat->List D->Option D} (hC:rW P C) (r:Rl nt w0 h0 fr bl a w h hd) (o:Oper) {f:Nat} {args:List bO} (hlow:xV P o = .call f args) (hdst:GB nt w0 o.dst)
  {site:Nat} {v:V} {wr:List (Nat × Option aO)} (ha:cE C site (bN fr) bl (.calln f args) = some (v,wr)) {K:Act->World->Prop} {Q:Exit->Act->World->Prop}
  (hK:∀ a' w' h' hd',Rl nt w0 h0 (fB fr o.dst v) (bQ bl wr) a' w' h' hd'->K a' w'):o.wp P a w K Q:=by
 obtain ⟨c,fn,hop,hcal,hfn,hl,c1,c2⟩:=S1 hlow
 obtain ⟨m1,m2⟩:=bP hl
 have a1:(c.args.map a.eval).size = args.length:=by simpa using m1
 have a2:∀ (j:Nat) (y:bO),args[j]? = some y->R3 h hd bl ((c.args.map a.eval).getD j undef) (bN fr y):=fun j y hy=>by
  obtain ⟨x,x1,x2⟩:=bU hl hy
  have x1' : c.args[j]? = some x:=by simpa using x1
  have:(c.args.map a.eval).getD j undef = a.eval x:=by simp [x1']
  rw [this]
  exact bC r.globs r.frame x2
 have hexec:(execOp a.eval o).run P w = .ok (.enter f (c.args.map a.eval)) w:=by
  obtain ⟨bd,hbd⟩:=ü.1 c2
  have c1' : (fn.name == "runtime.NumGoroutine") = false:=by simpa using c1
  simp [execOp,hop,resolve,hcal,Act.eval,Deferred.ofValue,invoke,callFunc,hfn,c1,hbd]
 simp only [cE] at ha
 split at ha
 ·cases ha
 rename_i ds hds
 split at ha
 ·rename_i x es rs hCx
  split at ha
  ·rename_i hnew
   obtain ⟨n1,n2⟩:=bP hds
   have hpl:kG 0 ds = none:=EK ds 0 fun d hd=>by
    obtain ⟨i,hi⟩:=æ.1 hd
    obtain ⟨y,y1,y2⟩:=bU hds hi
    exact JJ r (a2 i y y1) y2
   have hok:wX bl (args.flatMap fun x=>yG bl (bN fr x)):=wX.flatMap args fun x=>bN fr x
   have hS:=((hC f ds _ hCx).1 hpl).2 w (H5 w h hd (args.flatMap fun x=>yG bl (bN fr x))) (c.args.map a.eval) (MN r _) (by omega) (by
    intro i d hi
    obtain ⟨y,y1,y2⟩:=bU hds hi
    have h3:=a2 i y y1
    refine (oL r _ ?_ y2 fun p hp=>Î.2 ⟨y,Ê y1,hp⟩)
    generalize bN fr y = yy at h3 y2
    cases yy with
    | tup vs=>cases y2
    | _=>exact h3) (r.globs.mono (uK r _))
   unfold Oper.wp
   rw [hexec]
   simp only [Oper.upon]
   refine hS.mono ?_
   rintro e w' ⟨cv,h',rfl,g1,g2,g3,g4,g5⟩
   simp only
   simp only [qJ] at ha
   split at ha
   ·rename_i hfree
    cases ha
    simp only [JM,ë] at hnew
    obtain ⟨hc,hfl⟩:=hnew
    obtain ⟨hd0,q1,q2,q3⟩:=g1 site
    have hle:h.le (hw w'):=fun b ob hb=>(g5.block b (Ï.1 (r.hle b ob hb)).1).trans (r.hle b ob hb)
    have hup:h.le h':=(uK r _).trans g2
    obtain ⟨hd',r'⟩:=r.thaw o.dst hdst cv _ (Hp.le.refl _) hle (fun _ _=>rfl) g5 (gY site 0 es rs) (UL hfree) (HF site es rs 0) hd0 (aKm hc h site q1) (fun id b hb=>by
     have hB:=q2 id b hb
     have hmem:∃ e size rows,b = B7 e size rows ∧ rows ∈ rs:=by
      have hb' : bQ (fun _=>none) (gY site 0 es rs) id = some b:=hb
      unfold bQ at hb'
      rcases GG (gY site 0 es rs) none id with q | ⟨p,p1,p2,p3⟩
      ·rw [q] at hb'; cases hb'
      ·obtain ⟨e,size,rows,k1,k2⟩:=RM site es rs 0 p p1
       rw [← p3,k1] at hb'
       cases hb'
       exact ⟨e,size,rows,rfl,k2⟩
     obtain ⟨e,size,rows,rfl,hr⟩:=hmem
     unfold B7 at hB ⊢
     by_cases hsz:size = 0
     ·rw [Â hsz] at hB ⊢
      obtain ⟨g,k1,k2,k3,k4⟩:=hB
      refine ⟨g,k1,k2,k3,?_⟩
      cases hh:h g with
      | none=>rfl
      | some ob=>have:=hup g ob hh; rw [k4] at this; cases this
     ·rw [Ã hsz] at hB ⊢
      obtain ⟨k1,k2,⟨xs,k3,k4⟩,k5⟩:=hB
      refine ⟨k1,k2,⟨xs,k3,ZA (Ì.1 hfl rows hr) k4⟩,fun g hg=>⟨?_,(k5 g hg).2⟩⟩
      cases hh:h g with
      | none=>rfl
      | some ob=>have:=hup g ob hh; rw [(k5 g hg).1] at this; cases this) q3
    rw [ý] at hK
    exact hK _ _ h hd' r'
   ·cases ha
  ·cases ha
 ·cases ha
theorem aTg {C:Nat->List D->Option D} (hC:rW P C) (r:Rl nt w0 h0 fr bl a w h hd) (o:Oper) (hdst:GB nt w0 o.dst)
  {site:Nat} {v:V} {wr:List (Nat × Option aO)} (ha:cE C site (bN fr) bl (xV P o) = some (v,wr)) {K:Act->World->Prop} {Q:Exit->Act->World->Prop}
  (hK:∀ a' w' h' hd',Rl nt w0 h0 (fB fr o.dst v) (bQ bl wr) a' w' h' hd'->K a' w'):o.wp P a w K Q:=by
 unfold xV at ha
 cases hl:BX P o with
 | none=>rw [hl] at ha; cases ha
 | some so=>rw [hl] at ha; exact aSw hC r o hl hdst ha hK
end
end Vm
end
section
namespace Vm
open Go.RowKit
def V.ids1:V->List Nat
 | .ptr id _ | .own id _ | .orow id _ _ _ | .mp id=>[id]
 | _=>[]
def V.ids:V->List Nat
 | .agg cs=>cs.flatMap V.ids1
 | v=>v.ids1
def V.dids1 (bl:Nat->Option aO):V->List Nat
 | .ptr id _=>id :: (match bl id with | some (.box cs)=>cs.flatMap V.ids1 | _=>[])
 | v=>v.ids1
def V.dids (bl:Nat->Option aO):V->List Nat
 | .agg cs=>cs.flatMap (V.dids1 bl)
 | v=>v.dids1 bl
def fT.opds:fT->List bO
 | .bytes x | .move x | .box x | .load _ _ x | .nilCheck x | .un _ x | .conv _ x | .fieldAddr _ x | .field _ _ _ x | .len x | .lenS x | .extract x _ | .isnil _ x | .isnp _ x | .sliceA _ x=>[x]
 | .alloc _ | .fail | .mkmap _=>[]
 | .mput _ m k v | .mputP m k v=>[m,k,v]
 | .mget _ m k | .mdel _ m k | .mgetP m k=>[m,k]
 | .lend _ args _=>args
 | .cut _ x lo hi=>x :: (lo.toList ++ hi.toList)
 | .clear _ x=>[x]
 | .pick c a b=>[c,a,b]
 | .build _ ps=>ps.map fun p=>p.2.2
 | .buildSlice _ _ _ _ ps=>ps.map fun p=>p.2
 | .store _ x v=>[x,v]
 | .bin _ _ x y | .eqS _ _ x y | .indexAddr _ x y | .index x y | .indexArr _ _ x y | .idxA _ x y | .append _ _ _ x y | .makeSlice _ _ _ _ x y=>[x,y]
 | .slice _ x lo hi | .strSlice x lo hi=>x :: (lo.toList ++ hi.toList)
 | .max l | .min l=>l
 | .call _ args=>args
 | .calln _ args=>args
 | .mkfn _ caps=>caps
 | .mkfnv _ caps=>caps
 | .callv g args=>g :: args
def fT.peeks:fT->List bO
 | .load _ _ x | .nilCheck x | .fieldAddr _ x | .len x | .slice _ x _ _ | .store _ x _ | .indexAddr _ x _ | .indexArr _ _ x _ | .cut _ x _ _ | .clear _ x | .isnil _ x=>[x]
 | .append _ _ _ x y=>[x,y]
 | .mkfnv _ caps=>caps
 | .mput _ m _ _ | .mget _ m _ | .mdel _ m _ | .mputP m _ _ | .mgetP m _=>[m]
 | _=>[]
def fT.deeps:fT->List bO
 | .store _ _ v=>[v]
 | .buildSlice _ _ _ _ ps=>ps.map fun p=>p.2
 | .call _ args=>args
 | .calln _ args=>args
 | .mkfn _ caps=>caps
 | .callv _ args=>args
 | .lend _ args _=>args
 | _=>[]
def fT.new:fT->Bool
 | .alloc _ | .box _ | .mkmap _ | .buildSlice _ _ _ _ _ | .append _ _ _ _ _ | .makeSlice _ _ _ _ _ _=>true
 | _=>false
section
variable {ev ev' : bO->V} {bl bl' : Nat->Option aO}
theorem MP {v:V} (h:∀ id ∈ v.ids1,bl id = bl' id):nF bl v = nF bl' v:=by
 cases v with
 | own id ver=>simp only [nF]; rw [h id (by simp [V.ids1])]
 | ptr id off=>simp only [nF]; rw [h id (by simp [V.ids1])]
 | mp id=>simp only [nF]; rw [h id (by simp [V.ids1])]
 | _=>rfl
theorem XD {v:V} (h:∀ id ∈ v.ids1,bl id = bl' id):GC bl v = GC bl' v:=by
 cases v with
 | own id ver=>simp only [GC]; rw [h id (by simp [V.ids1])]
 | mp id=>simp only [GC]; rw [h id (by simp [V.ids1])]
 | _=>rfl
theorem j0 {α β:Type} {f g:α->Option β}:∀ {l:List α},(∀ x ∈ l,f x = g x)->aT f l = aT g l
 | [],_=>rfl
 | x :: l,h=>by simp only [aT]; rw [h x (by simp),j0 (fun y hy=>h y (by simp [hy]))]
theorem eH {α β:Type} {f g:α->List β}:∀ {l:List α},(∀ x ∈ l,f x = g x)->l.flatMap f = l.flatMap g
 | [],_=>rfl
 | x :: l,h=>by simp only [ì]; rw [h x (by simp),eH (fun y hy=>h y (by simp [hy]))]
theorem GM {v:V} (h:∀ id ∈ v.dids1 bl,bl id = bl' id):iQ bl v = iQ bl' v:=by
 cases v with
 | ptr id off =>
  have e:=h id (by simp [V.dids1])
  simp only [iQ]
  rw [← e]
  cases hb:bl id with
  | none=>rfl
  | some b =>
   cases b with
   | box cs =>
    simp only
    rw [j0 fun x hx=>MP fun i hi=>h i ?_]
    simp only [V.dids1,hb]
    exact Ý _ (Î.2 ⟨x,hx,hi⟩)
   | _=>rfl
 | _=>simp only [iQ]; exact MP (by simpa only [V.dids1] using h)
theorem AV {v:V} (h:∀ id ∈ v.dids1 bl,bl id = bl' id):CP bl v = CP bl' v:=by
 cases v with
 | ptr id off =>
  have e:=h id (by simp [V.dids1])
  simp only [CP]
  rw [← e]
  cases hb:bl id with
  | none=>rfl
  | some b =>
   cases b with
   | box cs =>
    have hl:∀ x ∈ cs,∀ i ∈ x.ids1,bl i = bl' i:=fun x hx i hi=>h i (by
     simp only [V.dids1,hb]
     exact Ý _ (Î.2 ⟨x,hx,hi⟩))
    simp only
    rw [j0 fun x hx=>MP (hl x hx),eH fun x hx=>XD (hl x hx)]
   | _=>rfl
 | _=>simp only [CP]; exact XD (by simpa only [V.dids1] using h)
theorem Q2 {v:V} (h:∀ id ∈ v.ids1,bl id = bl' id):v.dids1 bl = v.dids1 bl':=by
 cases v with
 | ptr id off=>simp only [V.dids1]; rw [h id (by simp [V.ids1])]
 | _=>rfl
theorem SN {v:V}:∀ id ∈ v.ids1,id ∈ v.dids1 bl:=by
 intro id h
 cases v with
 | ptr i off=>simp only [V.ids1,í] at h; subst h; simp [V.dids1]
 | _=>simp only [V.dids1]; exact h
theorem qV {v:V} (h:∀ id ∈ v.ids1,bl id = bl' id):gF bl v = gF bl' v:=by
 cases v with
 | d x=>cases x <;> rfl
 | own id ver=>simp only [gF]; rw [h id (by simp [V.ids1])]
 | _=>rfl
theorem X7 {v:V} (h:∀ id ∈ v.ids1,bl id = bl' id) (size:Nat) (lo hi:Option V):zR bl size v lo hi = zR bl' size v lo hi:=by
 cases v with
 | own id ver =>
  have e:=h id (by simp [V.ids1])
  rw [P9,P9]
  cases lo with
  | some l=>(dsimp only; rw [qV h,AV (v:=.own id ver) h])
  | none=>cases hi with
   | none=>(dsimp only; rw [qV h,AV (v:=.own id ver) h])
   | some x=>cases x with
    | d y=>cases y with
     | int k n=>dsimp only; rw [e]
     | _=>(dsimp only; rw [qV h,AV (v:=.own id ver) h])
    | _=>(dsimp only; rw [qV h,AV (v:=.own id ver) h])
 | d x=>cases x <;> rfl
 | _=>rfl
theorem aDa {v:V} (h:∀ id ∈ v.ids1,bl id = bl' id) (size:Nat) (lo hi:Option V):LS bl size v lo hi = LS bl' size v lo hi:=by
 cases v with
 | own id ver=>simp only [LS]; rw [h id (by simp [V.ids1])]
 | _=>rfl
theorem aNq {v:V}:∀ id ∈ v.ids1,id ∈ v.ids:=by
 intro id h
 cases v <;> first | exact h | simp [V.ids1] at h
theorem OZ {v:V}:∀ id ∈ v.dids1 bl,id ∈ v.dids bl:=by
 intro id h
 cases v <;> first | exact h | simp [V.dids1,V.ids1] at h
theorem aDx {v:V} (h:∀ id ∈ v.ids,bl id = bl' id):v.dids bl = v.dids bl':=by
 cases v with
 | agg cs=>exact eH fun x hx=>Q2 fun i hi=>h i (Î.2 ⟨x,hx,hi⟩)
 | _=>simp only [V.dids]; exact Q2 (by simpa only [V.ids] using h)
theorem aKZ {v:V}:∀ id ∈ v.ids,id ∈ v.dids bl:=by
 intro id h
 cases v with
 | agg cs =>
  obtain ⟨x,hx,hi⟩:=Î.1 h
  exact Î.2 ⟨x,hx,SN id hi⟩
 | _=>simp only [V.dids]; exact SN id (by simpa only [V.ids] using h)
theorem RF {v:V} (h:∀ id ∈ v.dids bl,bl id = bl' id):aT (iQ bl) v.cells = aT (iQ bl') v.cells:=by
 refine j0 fun x hx=>GM fun id hid=>h id ?_
 cases v with
 | agg cs=>exact Î.2 ⟨x,hx,hid⟩
 | _=>simp only [V.cells,í] at hx; subst hx; exact OZ id hid
theorem xH {v:V} (h:∀ id ∈ v.dids bl,bl id = bl' id):iX bl v = iX bl' v:=by
 cases v with
 | agg cs =>
  simp only [iX]
  rw [j0 fun x hx=>GM fun id hid=>h id (Î.2 ⟨x,hx,hid⟩)]
 | _=>simp only [iX]; exact GM fun id hid=>h id (OZ id hid)
theorem A3 {v:V} (h:∀ id ∈ v.dids bl,bl id = bl' id):yG bl v = yG bl' v:=by
 cases v with
 | agg cs=>exact eH fun x hx=>AV fun id hid=>h id (Î.2 ⟨x,hx,hid⟩)
 | _=>simp only [yG]; exact AV fun id hid=>h id (OZ id hid)
theorem I0 (size:Nat):∀ (ps:List (Nat × V)) (rs:List (List D)),(∀ p ∈ ps,∀ id ∈ p.2.dids bl,bl id = bl' id)->lU bl size rs ps = lU bl' size rs ps
 | [],rs,_=>rfl
 | (i,v) :: r,rs,h=>by
  simp only [lU]
  rw [RF (h (i,v) (by simp))]
  cases aT (iQ bl') v.cells with
  | none=>rfl
  | some row=>simp only; rw [I0 size r _ fun p hp=>h p (by simp [hp])]
theorem Q4 (t:Nat):∀ (vs:List V),(∀ v ∈ vs,∀ id ∈ v.dids bl,bl id = bl' id)->∀ i,FH bl t i vs = FH bl' t i vs
 | [],_,_=>rfl
 | v :: r,h,i=>by
  simp only [FH]
  rw [Q4 t r (fun x hx=>h x (Ý _ hx)) (i + 1),xH (h v (ò ..))]
  have e:OB bl v = OB bl' v:=by
   cases v with
   | own id ver=>simp only [OB]; rw [h _ (ò ..) id (by simp [V.dids,V.dids1,V.ids1])]
   | _=>rfl
  rw [e]
theorem NG (t:Nat):∀ (vs:List V),(∀ v ∈ vs,∀ id ∈ v.dids bl,bl id = bl' id)->∀ i,uO bl t i vs = uO bl' t i vs
 | [],_,_=>rfl
 | v :: r,h,i=>by
  simp only [uO]
  rw [NG t r (fun x hx=>h x (Ý _ hx)) (i + 1),A3 (h v (ò ..))]
theorem aEo {v:V} (h:∀ id ∈ v.ids,bl id = bl' id):P1 bl v = P1 bl' v:=by
 cases v with
 | ptr id off=>simp only [P1]; rw [h id (by simp [V.ids,V.ids1])]
 | _=>rfl
def fT.isCall:fT->Bool
 | .call _ _ | .callv _ _ | .calln _ _=>true
 | _=>false
theorem RJ:∀ {l:List (Nat × Option aO)},(∀ p ∈ l,bl p.1 = bl' p.1)->OC bl l = OC bl' l
 | [],_=>rfl
 | (i,b) :: l,h=>by
  simp only [OC]
  rw [h (i,b) (by simp),RJ fun p hp=>h p (by simp [hp])]
theorem E8 {site:Nat} {fz wr:List (Nat × Option aO)} {r:D} {v:V} (h:∀ p ∈ wr,bl p.1 = bl' p.1) (hs:qJ site bl fz r = some (v,wr)):qJ site bl' fz r = some (v,wr):=by
 by_cases hx:∃ y es rs,r = .own y es rs
 ·obtain ⟨y,es,rs,rfl⟩:=hx
  simp only [qJ] at hs ⊢
  split at hs
  ·rename_i hf
   cases hs
   rw [← RJ (bl:=bl) fun p hp=>h p (Ó.2 (.inl hp)),Â hf]
  ·cases hs
 ·have hx:∀ y es rs,r ≠ .own y es rs:=fun y es rs e=>hx ⟨y,es,rs,e⟩
  rw [G3 hx] at hs ⊢
  exact hs
theorem PU {C:Nat->List D->Option D} {site:Nat} (so:fT) (h5:so.isCall = true->∀ fz r,qJ site bl fz r = qJ site bl' fz r) (h1:∀ x ∈ so.opds,ev x = ev' x) (h2:∀ x ∈ so.peeks,∀ id ∈ (ev x).ids,bl id = bl' id) (h2' : ∀ x ∈ so.deeps,∀ id ∈ (ev x).dids bl,bl id = bl' id) (h3:so.new = true->bl site = bl' site):cE C site ev bl so = cE C site ev' bl' so:=by
 have one:∀ x ∈ so.peeks,∀ id ∈ (ev x).ids1,bl id = bl' id:=fun x hx id hid=>h2 x hx id (aNq id hid)
 cases so with
 | fail=>rfl
 | move x=>simp only [cE]; rw [h1 x (by simp [fT.opds])]
 | pick c a b=>simp only [cE]; rw [h1 c (by simp [fT.opds]),h1 a (by simp [fT.opds]),h1 b (by simp [fT.opds])]
 | alloc z=>simp only [cE]; rw [h3 rfl]
 | box x=>simp only [cE]; rw [h3 rfl,h1 x (by simp [fT.opds])]
 | build z ps =>
  simp only [cE]
  have:(ps.map fun (x:Nat × Nat × bO)=>(x.1,x.2.1,ev x.2.2)) = ps.map fun x=>(x.1,x.2.1,ev' x.2.2):=ð fun p hp=>by rw [h1 p.2.2 (Þ.2 ⟨p,hp,rfl⟩)]
  exact ă (fun q=>(IE z q).map fun cs=>(V.agg cs,([]:List (Nat × Option aO)))) this
 | buildSlice e size z n ps =>
  simp only [cE]
  have e1:(ps.map fun (x:Nat × bO)=>(x.1,ev x.2)) = ps.map fun x=>(x.1,ev' x.2):=ð fun p hp=>by rw [h1 p.2 (Þ.2 ⟨p,hp,rfl⟩)]
  have e2:lU bl size (List.replicate n z) (ps.map fun (x:Nat × bO)=>(x.1,ev x.2)) = lU bl' size (List.replicate n z) (ps.map fun (x:Nat × bO)=>(x.1,ev x.2)):=I0 size _ _ fun p hp id hid=>by
   obtain ⟨q,hq,rfl⟩:=Þ.1 hp
   exact h2' q.2 (Þ.2 ⟨q,hq,rfl⟩) id hid
  have e3:(ps.flatMap fun (x:Nat × bO)=>yG bl (ev x.2)) = ps.flatMap fun x=>yG bl' (ev' x.2):=eH fun p hp=>by
   rw [A3 (h2' p.2 (Þ.2 ⟨p,hp,rfl⟩)),h1 p.2 (Þ.2 ⟨p,hp,rfl⟩)]
  rw [h3 rfl]
  have e4:=e2.trans (ă (lU bl' size (List.replicate n z)) e1)
  cases bl' site with
  | some _=>rfl
  | none =>
   show (match lU bl size (List.replicate n z) (ps.map fun (x:Nat × bO)=>(x.1,ev x.2)) with
    | some rows=>some (V.own site 0,(site,some (aO.rows 0 e size rows)) :: ps.flatMap fun (x:Nat × bO)=>yG bl (ev x.2))
    | none=>none) = _
   rw [e4,e3]
   rfl
 | load size g x =>
  have e1:=h1 x (by simp [fT.opds])
  have e2:=one x (by simp [fT.peeks])
  simp only [cE]
  rw [← e1]
  cases hx:ev x <;> first | rfl | (rename_i y; cases y <;> rfl) | (dsimp only; rw [e2 _ (by rw [hx]; simp [V.ids1])])
 | store size x v =>
  have e1:=h1 x (by simp [fT.opds])
  have e2:=one x (by simp [fT.peeks])
  have e3:=h1 v (by simp [fT.opds])
  have e4:=h2' v (by simp [fT.deeps])
  simp only [cE]
  rw [← e1,← e3,RF e4,A3 e4]
  cases hx:ev x <;> first | rfl | (rename_i y; cases y <;> rfl) | (dsimp only; rw [e2 _ (by rw [hx]; simp [V.ids1])])
 | nilCheck x =>
  have e1:=h1 x (by simp [fT.opds])
  have e2:=one x (by simp [fT.peeks])
  simp only [cE]
  rw [← e1]
  cases hx:ev x <;> first | rfl | (rename_i y; cases y <;> rfl) | (dsimp only; rw [e2 _ (by rw [hx]; simp [V.ids1])])
 | bin c op x y=>simp only [cE]; rw [h1 x (by simp [fT.opds]),h1 y (by simp [fT.opds])]
 | eqS ks neg x y=>simp only [cE]; rw [h1 x (by simp [fT.opds]),h1 y (by simp [fT.opds])]
 | un op x=>simp only [cE]; rw [h1 x (by simp [fT.opds])]
 | conv k x=>simp only [cE]; rw [h1 x (by simp [fT.opds])]
 | slice size x lo hi =>
  have e1:=h1 x (by simp [fT.opds])
  have e2:=one x (by simp [fT.peeks])
  have e3:lo.map ev = lo.map ev':=by cases lo with | none=>rfl | some y=>simp [h1 y (by simp [fT.opds])]
  have e4:hi.map ev = hi.map ev':=by cases hi with | none=>rfl | some y=>simp [h1 y (by simp [fT.opds])]
  simp only [cE]
  rw [← e1,← e3,← e4,X7 e2]
 | cut size x lo hi =>
  have e1:=h1 x (by simp [fT.opds])
  have e2:=one x (by simp [fT.peeks])
  have e3:lo.map ev = lo.map ev':=by cases lo with | none=>rfl | some y=>simp [h1 y (by simp [fT.opds])]
  have e4:hi.map ev = hi.map ev':=by cases hi with | none=>rfl | some y=>simp [h1 y (by simp [fT.opds])]
  simp only [cE]
  rw [← e1,← e3,← e4,aDa e2]
 | isnil neg x =>
  have e1:=h1 x (by simp [fT.opds])
  have e2:=one x (by simp [fT.peeks])
  simp only [cE]
  rw [← e1]
  unfold M8
  cases hx:ev x <;> first | rfl | (rename_i y; cases y <;> rfl) | (dsimp only; rw [qV (fun id hid=>e2 id (by rw [hx]; exact hid))])
 | mkmap ek=>simp only [cE]; rw [h3 rfl]
 | mput ek m k v =>
  have e1:=h1 m (by simp [fT.opds])
  have e2:=one m (by simp [fT.peeks])
  have e3:=h1 k (by simp [fT.opds])
  have e4:=h1 v (by simp [fT.opds])
  simp only [cE]
  rw [← e1,← e3,← e4]
  cases KK (ev k) <;> cases aHf (ev v) <;> cases hx:ev m <;> first | rfl | (rename_i y; cases y <;> rfl) | (dsimp only; rw [e2 _ (by rw [hx]; simp [V.ids1])])
 | mputP m k v =>
  have e1:=h1 m (by simp [fT.opds])
  have e2:=one m (by simp [fT.peeks])
  have e3:=h1 k (by simp [fT.opds])
  have e4:=h1 v (by simp [fT.opds])
  simp only [cE]
  rw [← e1,← e3,← e4]
  cases V3 (ev k) <;> cases aEU (ev v) <;> cases hx:ev m <;> first | rfl | (rename_i y; cases y <;> rfl) | (dsimp only; rw [e2 _ (by rw [hx]; simp [V.ids1])])
 | mgetP m k =>
  have e1:=h1 m (by simp [fT.opds])
  have e2:=one m (by simp [fT.peeks])
  have e3:=h1 k (by simp [fT.opds])
  simp only [cE]
  rw [← e1,← e3]
  cases V3 (ev k) <;> cases hx:ev m <;> first | rfl | (rename_i y; cases y <;> rfl) | (dsimp only; rw [e2 _ (by rw [hx]; simp [V.ids1])])
 | mget z m k =>
  have e1:=h1 m (by simp [fT.opds])
  have e2:=one m (by simp [fT.peeks])
  have e3:=h1 k (by simp [fT.opds])
  simp only [cE]
  rw [← e1,← e3]
  have e4:VG bl (ev m) = VG bl' (ev m):=by
   unfold VG
   cases hx:ev m <;> first | rfl | (rename_i y; cases y <;> rfl) | (dsimp only; rw [e2 _ (by rw [hx]; simp [V.ids1])])
  rw [e4]
 | mdel ek m k =>
  have e1:=h1 m (by simp [fT.opds])
  have e2:=one m (by simp [fT.peeks])
  have e3:=h1 k (by simp [fT.opds])
  simp only [cE]
  rw [← e1,← e3]
  cases KK (ev k) <;> cases hx:ev m <;> first | rfl | (dsimp only; rw [e2 _ (by rw [hx]; simp [V.ids1])]; done) | (rename_i y; cases y <;> first | rfl | (rename_i q l; rcases q with _ | _ | _ | q <;> cases l <;> rfl))
 | clear z x =>
  have e1:=h1 x (by simp [fT.opds])
  have e2:=one x (by simp [fT.peeks])
  simp only [cE]
  rw [← e1]
  cases hx:ev x <;> first | rfl | (rename_i y; cases y <;> rfl) | (dsimp only; rw [e2 _ (by rw [hx]; simp [V.ids1])])
 | lend f args t =>
  have e0:args.map ev = args.map ev':=ð fun x hx=>h1 x hx
  have hd2:∀ v ∈ args.map ev,∀ id ∈ v.dids bl,bl id = bl' id:=fun v hv id hid=>by
   obtain ⟨x,hx,rfl⟩:=Þ.1 hv
   exact h2' x hx id hid
  simp only [cE]
  rw [← e0]
  generalize args.map ev = vs at hd2
  rw [← Q4 t vs hd2 0,← NG t vs hd2 0]
  cases hv:vs[t]? with
  | none=>rfl
  | some v=>cases v with
   | own id ver =>
    dsimp only
    rw [hd2 _ (Ê hv) id (by simp [V.dids,V.dids1,V.ids1])]
   | _=>rfl
 | strSlice x lo hi =>
  have e1:=h1 x (by simp [fT.opds])
  have e3:lo.map ev = lo.map ev':=by cases lo with | none=>rfl | some y=>simp [h1 y (by simp [fT.opds])]
  have e4:hi.map ev = hi.map ev':=by cases hi with | none=>rfl | some y=>simp [h1 y (by simp [fT.opds])]
  simp only [cE]
  rw [← e1,← e3,← e4]
 | fieldAddr off x =>
  have e1:=h1 x (by simp [fT.opds])
  have e2:=one x (by simp [fT.peeks])
  simp only [cE]
  rw [← e1]
  cases hx:ev x <;> first | rfl | (rename_i y; cases y <;> rfl) | (dsimp only; rw [e2 _ (by rw [hx]; simp [V.ids1])])
 | field off size g x=>simp only [cE]; rw [h1 x (by simp [fT.opds])]
 | isnp neg x=>simp only [cE]; rw [h1 x (by simp [fT.opds])]
 | sliceA n x=>simp only [cE]; rw [h1 x (by simp [fT.opds])]
 | idxA n x i=>simp only [cE]; rw [h1 x (by simp [fT.opds]),h1 i (by simp [fT.opds])]
 | indexArr n size x i =>
  have e1:=h1 x (by simp [fT.opds])
  have e2:=one x (by simp [fT.peeks])
  have e3:=h1 i (by simp [fT.opds])
  simp only [cE]
  rw [← e1,← e3]
  cases hx:ev x <;> first | rfl | (rename_i y; cases y <;> rfl) | (dsimp only; rw [e2 _ (by rw [hx]; simp [V.ids1])])
 | indexAddr size x i =>
  have e1:=h1 x (by simp [fT.opds])
  have e2:=one x (by simp [fT.peeks])
  have e3:=h1 i (by simp [fT.opds])
  simp only [cE]
  rw [← e1,← e3]
  cases hx:ev x <;> first | rfl | (rename_i y; cases y <;> rfl) | (dsimp only; rw [e2 _ (by rw [hx]; simp [V.ids1])])
 | index x i=>simp only [cE]; rw [h1 x (by simp [fT.opds]),h1 i (by simp [fT.opds])]
 | len x =>
  simp only [cE]; rw [qV (one x (by simp [fT.peeks])),h1 x (by simp [fT.opds])]
 | lenS x=>simp only [cE]; rw [h1 x (by simp [fT.opds])]
 | append e size bytes x y =>
  have e1:=h1 x (by simp [fT.opds])
  have e2:=one x (by simp [fT.peeks])
  simp only [cE]
  rw [qV (one y (by simp [fT.peeks])),← e1,← h1 y (by simp [fT.opds]),h3 rfl]
  cases hx:ev x <;> first | rfl | (dsimp only; rw [e2 _ (by rw [hx]; simp [V.ids1])])
 | makeSlice e size bytes z l c=>simp only [cE]; rw [h3 rfl,h1 l (by simp [fT.opds]),h1 c (by simp [fT.opds])]
 | max l=>simp only [cE]; rw [show l.map ev = l.map ev' from ð (fun x hx=>h1 x hx)]
 | min l=>simp only [cE]; rw [show l.map ev = l.map ev' from ð (fun x hx=>h1 x hx)]
 | extract x i=>simp only [cE]; rw [h1 x (by simp [fT.opds])]
 | bytes x=>simp only [cE]; rw [h1 x (by simp [fT.opds])]
 | call f args =>
  simp only [cE]
  have e1:aT (fun x=>iX bl (ev x)) args = aT (fun x=>iX bl' (ev' x)) args:=j0 fun x hx=>by
   rw [xH (h2' x hx),h1 x hx]
  have e2:(args.flatMap fun x=>yG bl (ev x)) = args.flatMap fun x=>yG bl' (ev' x):=eH fun x hx=>by
   rw [A3 (h2' x hx),h1 x hx]
  rw [e1,e2]
  simp only [h5 rfl]
 | calln f args =>
  simp only [cE]
  have e1:aT (fun x=>iX bl (ev x)) args = aT (fun x=>iX bl' (ev' x)) args:=j0 fun x hx=>by
   rw [xH (h2' x hx),h1 x hx]
  rw [e1]
  simp only [h5 rfl]
 | mkfn f caps =>
  simp only [cE]
  have d1:∀ x ∈ caps,∀ id ∈ (ev x).dids1 bl,bl id = bl' id:=fun x hx id hid=>h2' x hx id (OZ id hid)
  have e1:aT (fun x=>iQ bl (ev x)) caps = aT (fun x=>iQ bl' (ev' x)) caps:=j0 fun x hx=>by
   rw [GM (d1 x hx),h1 x hx]
  have e2:(caps.flatMap fun x=>CP bl (ev x)) = caps.flatMap fun x=>CP bl' (ev' x):=eH fun x hx=>by
   rw [AV (d1 x hx),h1 x hx]
  rw [e1,e2]
 | mkfnv f caps =>
  simp only [cE]
  have e0:caps.map ev = caps.map ev':=ð fun x hx=>h1 x hx
  have e1:(caps.map ev).all (P1 bl) = (caps.map ev').all (P1 bl'):=by
   rw [← e0]
   rw [Ė,Ì,Ì]
   have key:∀ y ∈ caps.map ev,P1 bl y = P1 bl' y:=fun y hy=>by
    obtain ⟨x,hx,rfl⟩:=Þ.1 hy
    exact aEo fun id hid=>h2 x hx id hid
   exact ⟨fun q y hy=>(key y hy).symm.trans (q y hy),fun q y hy=>(key y hy).trans (q y hy)⟩
  rw [e1,e0]
 | callv g args =>
  simp only [cE]
  have e1:aT (fun x=>iX bl (ev x)) args = aT (fun x=>iX bl' (ev' x)) args:=j0 fun x hx=>by
   rw [xH (h2' x hx),h1 x (Ý _ hx)]
  have e2:(args.flatMap fun x=>yG bl (ev x)) = args.flatMap fun x=>yG bl' (ev' x):=eH fun x hx=>by
   rw [A3 (h2' x hx),h1 x (Ý _ hx)]
  rw [e1,e2,h1 g (ò ..)]
  simp only [h5 rfl]
theorem aCa {C:Nat->List D->Option D} {site:Nat} {v:V} {wr:List (Nat × Option aO)} (so:fT) (h1:∀ x ∈ so.opds,ev x = ev' x) (h2:∀ x ∈ so.peeks,∀ id ∈ (ev x).ids,bl id = bl' id) (h2' : ∀ x ∈ so.deeps,∀ id ∈ (ev x).dids bl,bl id = bl' id) (h3:so.new = true->bl site = bl' site)
  (h4:∀ p ∈ wr,bl p.1 = bl' p.1) (hs:cE C site ev bl so = some (v,wr)):cE C site ev' bl' so = some (v,wr):=by
 cases hc:so.isCall with
 | false=>exact (PU so (fun e=>by rw [hc] at e; cases e) h1 h2 h2' h3).symm.trans hs
 | true =>
  cases so with
  | call f args =>
   simp only [cE] at hs ⊢
   have e1:aT (fun x=>iX bl (ev x)) args = aT (fun x=>iX bl' (ev' x)) args:=j0 fun x hx=>by
    rw [xH (h2' x hx),h1 x hx]
   have e2:(args.flatMap fun x=>yG bl (ev x)) = args.flatMap fun x=>yG bl' (ev' x):=eH fun x hx=>by
    rw [A3 (h2' x hx),h1 x hx]
   rw [e1,e2] at hs
   split at hs
   ·cases hs
   ·split at hs
    ·cases hs
    ·exact E8 h4 hs
  | calln f args =>
   simp only [cE] at hs ⊢
   have e1:aT (fun x=>iX bl (ev x)) args = aT (fun x=>iX bl' (ev' x)) args:=j0 fun x hx=>by
    rw [xH (h2' x hx),h1 x hx]
   rw [e1] at hs
   split at hs
   ·cases hs
   ·split at hs
    ·split at hs
     ·rename_i hn
      rw [Â hn]
      exact E8 h4 hs
     ·cases hs
    ·cases hs
  | callv g args =>
   simp only [cE] at hs ⊢
   have e1:aT (fun x=>iX bl (ev x)) args = aT (fun x=>iX bl' (ev' x)) args:=j0 fun x hx=>by
    rw [xH (h2' x hx),h1 x (Ý _ hx)]
   have e2:(args.flatMap fun x=>yG bl (ev x)) = args.flatMap fun x=>yG bl' (ev' x):=eH fun x hx=>by
    rw [A3 (h2' x hx),h1 x (Ý _ hx)]
   rw [e1,e2,h1 g (ò ..)] at hs
   split at hs
   ·split at hs
    ·cases hs
    ·split at hs
     ·cases hs
     ·exact E8 h4 hs
   ·cases hs
  | _=>cases hc
end
end Vm
end
section
namespace Vm
open Go.RowKit
abbrev Fn:=(Nat->V) × (Nat->Option aO)
abbrev Fp:=List Nat × List Nat
def BA (o:aY) (fr:Nat->V) (bl:Nat->Option aO) (wr:List (Nat × Option aO)):Fp:=((if o.op.new = true then [o.site] else []) ++ ((o.op.peeks.flatMap fun x=>(bN fr x).ids) ++ o.op.deeps.flatMap fun x=>(bN fr x).dids bl),wr.map (·.1))
theorem aEk {o:fT} {x:bO} (h:x ∈ o.peeks):x ∈ o.opds:=by
 cases o <;> simp only [fT.peeks,fT.opds,Û,í,List.not_mem_nil,or_false] at h ⊢ <;> first | (exact h.elim) | (exact .inl h) | (exact h) | skip
theorem aBZ {o:fT} {x:bO} (h:x ∈ o.deeps):x ∈ o.opds:=by
 cases o <;> simp only [fT.deeps,fT.opds,Û,í,List.not_mem_nil,or_false] at h ⊢ <;> first | (exact h.elim) | (exact .inr h) | (exact h) | skip
theorem aFf {o:aY} {fr fr' : Nat->V} {bl:Nat->Option aO} {wr:List (Nat × Option aO)} (h:∀ x ∈ o.op.opds,bN fr x = bN fr' x):BA o fr bl wr = BA o fr' bl wr:=by
 simp only [BA]
 rw [eH (l:=o.op.peeks) fun z hz=>by rw [h z (aEk hz)],eH (l:=o.op.deeps) fun z hz=>by rw [h z (aBZ hz)]]
theorem aQ5 {o:aY} {fr:Nat->V} {bl bl' : Nat->Option aO} {wr:List (Nat × Option aO)} (h:∀ i ∈ (BA o fr bl wr).1,bl i = bl' i):BA o fr bl wr = BA o fr bl' wr:=by
 have h' : ∀ x ∈ o.op.deeps,∀ id ∈ (bN fr x).dids bl,bl id = bl' id:=fun x hx id hid=>h id (Ó.2 (.inr (Ó.2 (.inr (Î.2 ⟨x,hx,hid⟩)))))
 simp only [BA]
 rw [eH (l:=o.op.deeps) fun z hz=>aDx fun id hid=>h' z hz id (aKZ id hid)]
theorem aM1 {C:Nat->List D->Option D} {o:aY} {fr fr' : Nat->V} {bl bl' : Nat->Option aO} {v:V} {wr:List (Nat × Option aO)} (h1:∀ x ∈ o.op.opds,bN fr x = bN fr' x) (h:∀ i ∈ (BA o fr bl wr).1,bl i = bl' i) (h4:∀ p ∈ wr,bl p.1 = bl' p.1) (hs:cE C o.site (bN fr) bl o.op = some (v,wr)):cE C o.site (bN fr') bl' o.op = some (v,wr) :=
 aCa o.op h1 (fun x hx id hid=>h id (Ó.2 (.inr (Ó.2 (.inl (Î.2 ⟨x,hx,hid⟩))))))
  (fun x hx id hid=>h id (Ó.2 (.inr (Ó.2 (.inr (Î.2 ⟨x,hx,hid⟩))))))
  (fun hn=>h _ (Ó.2 (.inl (by rw [Â hn]; simp)))) h4 hs
def HZ (C:Nat->List D->Option D) (o:aY) (s:Fn):Option (Fn × Fp):=match o.wants s.1 with
 | .run=>match cE C o.site (bN s.1) s.2 o.op with
  | some (v,wr)=>some ((fB s.1 o.dst v,bQ s.2 wr),BA o s.1 s.2 wr)
  | none=>none
 | .skip=>some ((fB s.1 o.dst (.tup []),s.2),([],[]))
 | .bad=>none
def aY.looks (o:aY):List Nat:=(o.op.opds.filterMap fun x=>match x with | .t n=>some n | .c _=>none) ++ (match o.guard with | some (t,_)=>[t] | none=>[])
def ind (x y:aY) (p q:Fp):Bool :=
 (match x.dst with | some d=>!(y.looks.contains d) && y.dst != some d | none=>true) && (match y.dst with | some d=>!(x.looks.contains d) | none=>true) &&
 p.2.all (fun i=>!(q.1.contains i) && !(q.2.contains i)) && q.2.all (fun i=>!(p.1.contains i))
theorem SA {fr:Nat->V} {dst:Option Nat} {v:V} {x:bO} {l:List Nat} (h:∀ n,x = .t n->n ∈ l) (hd:∀ d,dst = some d->d ∉ l):bN (fB fr dst v) x = bN fr x:=by
 cases x with
 | c u=>rfl
 | t n =>
  simp only [bN,fB]
  rw [Ã]
  intro e
  exact hd n e (h n rfl)
theorem GN {o:aY} {x:bO} (hx:x ∈ o.op.opds) {n:Nat} (e:x = .t n):n ∈ o.looks:=by
 subst e
 exact Ó.2 (.inl (List.mem_filterMap.2 ⟨_,hx,rfl⟩))
theorem CW {o:aY} {fr:Nat->V} {dst:Option Nat} {v:V} (hd:∀ d,dst = some d->d ∉ o.looks):o.wants (fB fr dst v) = o.wants fr:=by
 unfold aY.wants
 cases hg:o.guard with
 | none=>rfl
 | some p =>
  obtain ⟨t,b⟩:=p
  have:fB fr dst v t = fr t:=by
   simp only [fB]
   rw [Ã]
   intro e
   exact hd t e (Ó.2 (.inr (by rw [hg]; simp)))
  simp only [this]
theorem vV {bl:Nat->Option aO} {wr:List (Nat × Option aO)} {i:Nat} (h:i ∉ wr.map (·.1)):bQ bl wr i = bl i:=by
 unfold bQ
 rcases GG wr (bl i) i with q | ⟨p,q1,q2,q3⟩
 ·exact q
 ·exact absurd (Þ.2 ⟨p,q1,q2⟩) h
theorem aFc {bl bl' : Nat->Option aO} {wr:List (Nat × Option aO)} {i:Nat} (h:i ∈ wr.map (·.1)):bQ bl wr i = bQ bl' wr i:=by
 induction wr with
 | nil=>simp at h
 | cons p r ih =>
  obtain ⟨k,b⟩:=p
  simp only [bQ,lk]
  by_cases e:i = k
  ·rw [Â e,Â e]
  ·rw [Ã e,Ã e]
   exact ih (by simpa [e] using h)
theorem I8 (fr:Nat->V) {d e:Option Nat} (u v:V) (h:∀ x,d = some x->e ≠ some x):fB (fB fr d u) e v = fB (fB fr e v) d u:=by
 funext t
 simp only [fB]
 by_cases h1:e = some t
 ·have h2:d ≠ some t:=fun h2=>h t h2 h1
  rw [Â h1,Ã h2,Â h1]
 ·rw [Ã h1,Ã h1]
theorem aGA (bl:Nat->Option aO) (wi wj:List (Nat × Option aO)) (h:∀ i ∈ wi.map (·.1),i ∉ wj.map (·.1)):bQ (bQ bl wi) wj = bQ (bQ bl wj) wi:=by
 funext i
 by_cases hi:i ∈ wi.map (·.1)
 ·have hj:=h i hi
  rw [vV hj]
  exact aFc hi
 ·rw [vV (bl:=bQ bl wj) hi]
  by_cases hj:i ∈ wj.map (·.1)
  ·exact aFc hj
  ·rw [vV hj,vV hj,vV hi]
theorem aVG {C:Nat->List D->Option D} {x y:aY} {s s1 s2:Fn} {p q:Fp} (h1:HZ C x s = some (s1,p)) (h2:HZ C y s1 = some (s2,q)) (hi:ind x y p q = true) :
  ∃ s1',HZ C y s = some (s1',q) ∧ HZ C x s1' = some (s2,p):=by
 obtain ⟨fr,bl⟩:=s
 simp only [ind,ë] at hi
 obtain ⟨⟨⟨i1,i2⟩,i3⟩,i4⟩:=hi
 have dx:∀ d,x.dst = some d->d ∉ y.looks ∧ y.dst ≠ some d:=by
  intro d e
  rw [e] at i1
  simp only [ë,ģ,bne_iff_ne,ne_eq] at i1
  exact ⟨fun hm=>by simp [hm] at i1,i1.2⟩
 have dy:∀ d,y.dst = some d->d ∉ x.looks:=by
  intro d e
  rw [e] at i2
  intro hm
  simp [hm] at i2
 -- the first step
 simp only [HZ] at h1
 -- by the guard of x
 cases hwx:x.wants fr with
 | bad=>rw [hwx] at h1; cases h1
 | skip =>
  rw [hwx] at h1
  cases h1
  simp only [HZ,CW (fun d e=>(dx d e).1)] at h2 ⊢
  cases hwy:y.wants fr with
  | bad=>rw [hwy] at h2; cases h2
  | skip =>
   rw [hwy] at h2
   cases h2
   refine ⟨_,rfl,?_⟩
   simp only [CW dy,hwx]
   rw [I8 fr (.tup []) (.tup []) (fun d e=>(dx d e).2)]
  | run =>
   rw [hwy] at h2
   simp only at h2 ⊢
   have hev:∀ z ∈ y.op.opds,bN (fB fr x.dst (.tup [])) z = bN fr z:=fun z hz=>SA (l:=y.looks) (fun n e=>GN hz e) (fun d e=>(dx d e).1)
   have hloc:cE C y.site (bN (fB fr x.dst (.tup []))) bl y.op = cE C y.site (bN fr) bl y.op:=PU y.op (fun _ _ _=>rfl) hev (fun _ _ _ _=>rfl) (fun _ _ _ _=>rfl) (fun _=>rfl)
   have hfp:∀ wr,BA y (fB fr x.dst (.tup [])) bl wr = BA y fr bl wr:=fun wr=>aFf hev
   rw [hloc] at h2
   cases ha:cE C y.site (bN fr) bl y.op with
   | none=>rw [ha] at h2; cases h2
   | some r =>
    obtain ⟨v,wr⟩:=r
    rw [ha] at h2
    simp only [hfp] at h2
    cases h2
    refine ⟨_,rfl,?_⟩
    simp only [CW dy,hwx]
    rw [I8 fr (.tup []) v (fun d e=>(dx d e).2)]
 | run =>
  rw [hwx] at h1
  simp only at h1
  cases hax:cE C x.site (bN fr) bl x.op with
  | none=>rw [hax] at h1; cases h1
  | some rx =>
   obtain ⟨vx,wx⟩:=rx
   rw [hax] at h1
   cases h1
   simp only [HZ,CW (fun d e=>(dx d e).1)] at h2 ⊢
   cases hwy:y.wants fr with
   | bad=>rw [hwy] at h2; cases h2
   | skip =>
    rw [hwy] at h2
    cases h2
    refine ⟨_,rfl,?_⟩
    simp only [CW dy,hwx]
    have hev:∀ z ∈ x.op.opds,bN (fB fr y.dst (.tup [])) z = bN fr z:=fun z hz=>SA (l:=x.looks) (fun n e=>GN hz e) dy
    have hloc:cE C x.site (bN (fB fr y.dst (.tup []))) bl x.op = cE C x.site (bN fr) bl x.op:=PU x.op (fun _ _ _=>rfl) hev (fun _ _ _ _=>rfl) (fun _ _ _ _=>rfl) (fun _=>rfl)
    rw [hloc,hax]
    have hfp:BA x (fB fr y.dst (.tup [])) bl wx = BA x fr bl wx:=aFf hev
    simp only [hfp]
    rw [I8 fr vx (.tup []) (fun d e=>(dx d e).2)]
   | run =>
    rw [hwy] at h2
    simp only at h2 ⊢
    cases hay:cE C y.site (bN (fB fr x.dst vx)) (bQ bl wx) y.op with
    | none=>rw [hay] at h2; cases h2
    | some ry =>
     obtain ⟨vy,wy⟩:=ry
     rw [hay] at h2
     have hevy:∀ z ∈ y.op.opds,bN (fB fr x.dst vx) z = bN fr z:=fun z hz=>SA (l:=y.looks) (fun n e=>GN hz e) (fun d e=>(dx d e).1)
     have hevx:∀ z ∈ x.op.opds,bN (fB fr y.dst vy) z = bN fr z:=fun z hz=>SA (l:=x.looks) (fun n e=>GN hz e) dy
     have hfpy:BA y (fB fr x.dst vx) (bQ bl wx) wy = BA y fr (bQ bl wx) wy:=aFf hevy
     simp only [hfpy] at h2
     cases h2
     -- what y reads x does not write
     have j3:∀ i ∈ wx.map (·.1),i ∉ (BA y fr (bQ bl wx) wy).1 ∧ i ∉ (BA y fr (bQ bl wx) wy).2:=by
      intro i hi
      have:=Ì.1 i3 i hi
      simp only [ë,ģ] at this
      exact ⟨fun hm=>by simp [hm] at this,fun hm=>by simp [hm] at this⟩
     have j4:∀ i ∈ wy.map (·.1),i ∉ (BA x fr bl wx).1:=by
      intro i hi hm
      have:=Ì.1 i4 i hi
      simp [hm] at this
     have hby:∀ i ∈ (BA y fr (bQ bl wx) wy).1,bQ bl wx i = bl i:=fun i hi=>vV fun hm=>(j3 i hm).1 hi
     have hbx:∀ i ∈ (BA x fr bl wx).1,bl i = bQ bl wy i:=fun i hi=>(vV fun hm=>j4 i hm hi).symm
     have hay:cE C y.site (bN fr) bl y.op = some (vy,wy):=aM1 (wr:=wy) hevy (by rw [hfpy]; exact hby) (fun p hp=>vV fun hm=>(j3 p.1 hm).2 (Þ.2 ⟨p,hp,rfl⟩)) hay
     rw [hay]
     rw [aQ5 hby]
     refine ⟨_,rfl,?_⟩
     simp only [CW dy,hwx]
     have hlocx:cE C x.site (bN (fB fr y.dst vy)) (bQ bl wy) x.op = some (vx,wx):=aM1 (wr:=wx) (fun z hz=>(hevx z hz).symm) hbx (fun p hp=>(vV fun hm=>(j3 p.1 (Þ.2 ⟨p,hp,rfl⟩)).2 hm).symm) hax
     rw [hlocx]
     have hfpx:BA x (fB fr y.dst vy) (bQ bl wy) wx = BA x fr bl wx:=(aFf hevx).trans (aQ5 hbx).symm
     simp only [hfpx]
     rw [I8 fr vx vy (fun d e=>(dx d e).2),aGA bl wx wy fun i hi=>(j3 i hi).2]
def tL (C:Nat->List D->Option D) (l:List aY) (fp:Nat->Fp):List Nat->Fn->Fn->Prop
 | [],s,s'=>s = s'
 | i :: L,s,s'=>∃ o s1,l[i]? = some o ∧ HZ C o s = some (s1,fp i) ∧ tL C l fp L s1 s'
def Ind (l:List aY) (fp:Nat->Fp) (j i:Nat):Prop:=∀ x y,l[j]? = some x->l[i]? = some y->ind x y (fp j) (fp i) = true
theorem tL.bring {C:Nat->List D->Option D} {l:List aY} {fp:Nat->Fp} {i:Nat} {B:List Nat}:∀ {A:List Nat} {s s' : Fn},tL C l fp (A ++ i :: B) s s'->(∀ j ∈ A,Ind l fp j i)->tL C l fp (i :: (A ++ B)) s s'
 | [],s,s',h,_=>h
 | j :: A,s,s',⟨o,s1,ho,hs,hr⟩,hi=>by
  obtain ⟨oi,s2,ho2,hs2,hr2⟩:=tL.bring hr fun k hk=>hi k (by simp [hk])
  obtain ⟨s1',g1,g2⟩:=aVG hs hs2 (hi j (by simp) o oi ho ho2)
  exact ⟨oi,s1',ho2,g1,o,s2,ho,g2,hr2⟩
end Vm
end
section
namespace Vm
open Go.RowKit
def j7 (C:Nat->List D->Option D) (o:aY) (s:St):Option (St × Fp) :=
 match o.wants s.get with
 | .run=>match cE C o.site (bN s.get) s.blk o.op with
  | some (v,wr)=>some (s.put o.dst v wr,BA o s.get s.blk wr)
  | none=>none
 | .skip=>some (s.put o.dst (.tup []) [],([],[]))
 | .bad=>none
def iP (C:Nat->List D->Option D):List aY->St->Option (St × List Fp)
 | [],s=>some (s,[])
 | o :: r,s=>match j7 C o s with
  | some (s',p)=>match iP C r s' with
   | some (s'',ps)=>some (s'',p :: ps)
   | none=>none
  | none=>none
def OS (ops:List aY) (ps:List Fp) (pairs:List (Nat × Nat)):Bool:=pairs.all fun (i,j)=>match ops[i]?,ops[j]?,ps[i]?,ps[j]? with
 | some x,some y,some p,some q=>ind x y p q
 | _,_,_,_=>false
def fG (C:Nat->List D->Option D) (ops:List aY) (draw:Option (List (Nat × Nat))) (s:St):Option St:=match draw with
 | none=>j5 C ops s
 | some pairs=>match iP C ops s with
  | some (s',ps)=>if OS ops ps pairs then some s' else none
  | none=>none
theorem XC {α:Type}:∀ (l m:List (Nat × α)) (d:α) (t:Nat),lk (l ++ m) d t = lk l (lk m d t) t
 | [],m,d,t=>rfl
 | (k,v) :: l,m,d,t=>by simp only [Č,lk]; rw [XC l m d t]
def St.fn (s:St):Fn:=(s.get,s.blk)
theorem aMX (s:St) (dst:Option Nat) (v:V) (wr:List (Nat × Option aO)):(s.put dst v wr).fn = (fB s.get dst v,bQ s.blk wr):=by
 unfold St.fn
 congr 1
 ·funext t
  cases dst with
  | none=>simp [St.get,St.put,fB]
  | some d =>
   simp only [St.get,St.put,fB,lk,Ä]
   by_cases e:t = d
   ·rw [Â e,Â e.symm]
   ·rw [Ã e,Ã fun h=>e h.symm]
 ·funext i
  simp only [St.blk,St.put,bQ,XC]
theorem aAv {C:Nat->List D->Option D} {o:aY} {s s' : St} {p:Fp} (e:j7 C o s = some (s',p)):HZ C o s.fn = some (s'.fn,p):=by
 unfold j7 at e
 unfold HZ
 have e1:s.fn.1 = s.get:=rfl
 have e2:s.fn.2 = s.blk:=rfl
 rw [e1,e2]
 cases hw:o.wants s.get with
 | bad=>rw [hw] at e; cases e
 | skip =>
  rw [hw] at e
  cases e
  rw [aMX]
  rfl
 | run =>
  rw [hw] at e
  simp only at e ⊢
  cases ha:cE C o.site (bN s.get) s.blk o.op with
  | none=>rw [ha] at e; cases e
  | some r =>
   obtain ⟨v,wr⟩:=r
   rw [ha] at e
   cases e
   simp only
   rw [aMX]
theorem aNP {C:Nat->List D->Option D} {o:aY} {s s' : St} (e:BG C o s = some s'):∃ p,j7 C o s = some (s',p):=by
 unfold BG at e
 unfold j7
 cases hw:o.wants s.get with
 | bad=>rw [hw] at e; cases e
 | skip=>rw [hw] at e; cases e; exact ⟨_,rfl⟩
 | run =>
  rw [hw] at e
  simp only at e ⊢
  cases ha:cE C o.site (bN s.get) s.blk o.op with
  | none=>rw [ha] at e; cases e
  | some r =>
   obtain ⟨v,wr⟩:=r
   rw [ha] at e
   cases e
   exact ⟨_,rfl⟩
theorem S7 {C:Nat->List D->Option D}:∀ {l:List aY} {s s' : St},j5 C l s = some s'->∃ ps,iP C l s = some (s',ps)
 | [],s,s',e=>by simp only [j5,Ä] at e; subst e; exact ⟨[],rfl⟩
 | o :: l,s,s',e=>by
  simp only [j5] at e
  split at e
  ·rename_i s1 h1
   obtain ⟨p,hp⟩:=aNP h1
   obtain ⟨ps,hps⟩:=S7 e
   exact ⟨p :: ps,by simp only [iP,hp,hps]⟩
  ·cases e
theorem I3 {C:Nat->List D->Option D}:∀ {l:List aY} {s s' : St} {ps:List Fp},iP C l s = some (s',ps)->ps.length = l.length
 | [],s,s',ps,e=>by simp only [iP,Ä,ú] at e; rw [← e.2]; rfl
 | o :: l,s,s',ps,e=>by
  simp only [iP] at e
  split at e
  ·split at e
   ·rename_i h2
    cases e
    simp [I3 h2]
   ·cases e
  ·cases e
theorem rT {C:Nat->List D->Option D} (L:List aY) (fp:Nat->Fp):∀ {l:List aY} {k:Nat} {s s' : St} {ps:List Fp},(∀ i,l[i]? = L[k + i]?)->(∀ i,i < l.length->fp (k + i) = ps.getD i ([],[]))->iP C l s = some (s',ps)->tL C L fp ((List.range l.length).map (k + ·)) s.fn s'.fn
 | [],k,s,s',ps,_,_,e=>by simp only [iP,Ä,ú] at e; rw [← e.1]; rfl
 | o :: l,k,s,s',ps,hl,hf,e=>by
  simp only [iP] at e
  split at e
  ·rename_i s1 p h1
   split at e
   ·rename_i s2 ps' h2
    cases e
    rw [Ø,List.range_succ_eq_map,á,List.map_map]
    refine ⟨o,s1.fn,by have:=hl 0; simpa using this.symm,?_,?_⟩
    ·have:=hf 0 (by simp)
     simp only [List.getD_cons_zero,Đ] at this ⊢
     rw [this]
     exact aAv h1
    ·have:=rT L fp (k:=k + 1) (fun i=>by have:=hl (i + 1); simpa [Ć,ļ 1 i] using this) (fun i hi=>by
      have:=hf (i + 1) (by simp; omega)
      rw [show k + 1 + i = k + (i + 1) by omega]
      simpa using this) h2
     have e2:((k + ·) ∘ Nat.succ) = (k + 1 + ·):=by funext i; simp; omega
     rw [e2]
     exact this
   ·cases e
  ·cases e
section
variable {P:Program} {nt:Nat} {w0:cF} {w:World} {h0 h:Hp} {fr:Nat->V} {bl:Nat->Option aO} {a:Act} {hd:Nat->Value} {C:Nat->List D->Option D}
theorem aHi {v:V} {b:Bool} (e:BK v b = .run):v = .d (.bool b):=by
 cases v with
 | d x=>cases x with
  | bool c=>cases c <;> cases b <;> simp [BK] at e <;> rfl
  | _=>simp [BK] at e
 | tup vs=>cases vs <;> simp [BK] at e
 | _=>simp [BK] at e
theorem aCn {v:V} {b:Bool} (e:BK v b = .skip):(∃ c,v = .d (.bool c) ∧ c ≠ b) ∨ v = .tup []:=by
 cases v with
 | d x=>cases x with
  | bool c=>exact .inl ⟨c,rfl,by rintro rfl; cases c <;> simp [BK] at e⟩
  | _=>simp [BK] at e
 | tup vs=>cases vs with
  | nil=>exact .inr rfl
  | cons x l=>simp [BK] at e
 | _=>simp [BK] at e
theorem aIx {h:Hp} {hd:Nat->Value} {bl:Nat->Option aO}:R3 h hd bl undef (.tup []):=⟨#[],rfl,rfl,fun j x hx=>by simp at hx⟩
theorem aAw (r:Rl nt w0 h0 fr bl a w h hd) {ops:Array Oper} {o:Oper} {so:aY} (hlow:nQ P nt ops o = some so) (hF:∀ d,o.dst = some d->w0.F d = none) :
  so.op = xV P o ∧ so.dst = o.dst ∧ GB nt w0 o.dst ∧ (so.wants fr = .run->Region.wanted o (yielded ops a.tmps) = true) ∧ (so.wants fr = .skip->Region.wanted o (yielded ops a.tmps) = false):=by
 unfold nQ at hlow
 ·split at hlow
  ·rename_i hd
   have hdst:GB nt w0 o.dst:=fun d e=>⟨by rw [e] at hd; simpa [aQ7] using hd,hF d e⟩
   split at hlow
   ·rename_i hg
    cases hlow
    exact ⟨rfl,rfl,hdst,fun _=>by simp [Region.wanted,hg],fun h=>by simp [aY.wants] at h⟩
   ·rename_i j b hg
    split at hlow
    ·rename_i t ht
     cases hlow
     have hy:∀ c,fr t = .d (.bool c)->yielded ops a.tmps j = some c:=by
      intro c hc
      have:=r.frame t
      rw [hc] at this
      have hv:=oA this
      have:a.tmps[t]? = some (.bool c):=by
       simp only [É] at hv
       cases hq:a.tmps[t]? with
       | none=>rw [hq] at hv; cases hv
       | some u=>rw [hq] at hv; simpa using hv
      simp [yielded,ht,this]
     refine ⟨rfl,rfl,hdst,fun hw=>?_,fun hw=>?_⟩
     ·simp only [aY.wants] at hw
      simp [Region.wanted,hg,hy _ (aHi hw)]
     ·simp only [aY.wants] at hw
      rcases aCn hw with ⟨c,hc,hne⟩ | hu
      ·simp [Region.wanted,hg,hy _ hc,hne]
      ·have h3:=r.frame t
       rw [hu] at h3
       obtain ⟨arr,e1,e2,_⟩:=h3
       have e3:arr = #[]:=by simpa using e2
       have hn:yielded ops a.tmps j = none:=by
        simp only [yielded,ht,À]
        cases hq:a.tmps[t]? with
        | none=>rfl
        | some u =>
         have:u = .tuple #[]:=by
          simp only [É,hq,è] at e1
          rw [e1,e3]
         subst this
         rfl
       simp [Region.wanted,hg,hn]
    ·cases hlow
  ·cases hlow
def U2 (w0:cF) (ops:Array Oper):Prop:=∀ o ∈ ops.toList,∀ d,o.dst = some d->w0.F d = none
theorem aDF (so:aY) (fr:Nat->V):so.bare.wants fr = so.wants fr:=rfl
theorem R9 (hC:rW P C) (r:Rl nt w0 h0 fr bl a w h hd) {ops:Array Oper} {i:Nat} {o:Oper} {so:aY} (hF:U2 w0 ops) (ho:ops[i]? = some o) (hlow:nQ P nt ops o = some so.bare) {s' : Fn} {p:Fp} (hs:HZ C so (fr,bl) = some (s',p))
  {K:Act->World->Prop} {Q:Exit->Act->World->Prop} (hK:∀ a' w' h' hd',Rl nt w0 h0 s'.1 s'.2 a' w' h' hd'->K a' w'):wpOp P ops Q i K a w:=by
 obtain ⟨g1,g2,g3,g4,g5⟩:=aAw r hlow (hF o (by have:=ķ ho; simpa using this))
 rw [aDF] at g4 g5
 replace g2:so.dst = o.dst:=g2
 unfold wpOp
 rw [ho]
 simp only
 simp only [HZ] at hs
 cases hw:so.wants fr with
 | bad=>rw [hw] at hs; cases hs
 | skip =>
  rw [hw] at hs
  rw [Ã (by rw [g5 hw]; simp)]
  cases hs
  refine hK _ _ h hd ?_
  rw [g2]
  exact r.put0 o.dst undef (.tup []) g3 aIx
 | run =>
  rw [hw] at hs
  rw [Â (g4 hw)]
  refine .inl ?_
  simp only at hs
  cases ha:cE C so.site (bN fr) bl so.op with
  | none=>rw [ha] at hs; cases hs
  | some q =>
   obtain ⟨v,wr⟩:=q
   rw [ha] at hs
   cases hs
   have key:∀ a' w' h' hd',Rl nt w0 h0 (fB fr o.dst v) (bQ bl wr) a' w' h' hd'->K a' w':=fun a' w' h' hd' hr=>hK a' w' h' hd' (by rw [g2]; exact hr)
   replace g1:so.op.bare = xV P o:=g1
   cases hop:so.op with
   | lend f args t=>rw [hop] at ha g1; exact aPF hC r o g1.symm g3 ha key
   | calln f args=>rw [hop] at ha g1; exact aM2 hC r o g1.symm g3 ha key
   | cut size x lo hi=>rw [hop] at ha g1; exact aRi r o g1.symm g3 ha key
   | mkfnv f caps=>rw [hop] at ha g1; exact aIZ (C:=C) r o g1.symm g3 ha key
   | _ =>
    have hb:so.op.bare = so.op:=by rw [hop]; rfl
    rw [hb] at g1
    rw [g1] at ha
    exact aTg hC r o g3 ha key
theorem ZK (hC:rW P C) {ops:Array Oper} {l:List aY} (hF:U2 w0 ops) (hlow:aT (nQ P nt ops) ops.toList = some (l.map aY.bare)) (fp:Nat->Fp) {Q:Exit->Act->World->Prop} {s' : Fn} (hQ:∀ a' w' h' hd',Rl nt w0 h0 s'.1 s'.2 a' w' h' hd'->Q .normal a' w') :
  ∀ (L:List Nat) (s:Fn) (a:Act) (w:World) (h:Hp) (hd:Nat->Value),Rl nt w0 h0 s.1 s.2 a w h hd->tL C l fp L s s'->wpOps P ops Q L a w
 | [],s,a,w,h,hd,r,hs=>by simp only [tL] at hs; subst hs; exact hQ _ _ _ _ r
 | i :: L,s,a,w,h,hd,r,hs=>by
  obtain ⟨so,s1,ho,hst,hr⟩:=hs
  obtain ⟨o,q1,q2⟩:=bU hlow (show (l.map aY.bare)[i]? = some so.bare by simp [ho])
  rw [wpOps_cons]
  exact R9 hC r hF (by simpa using q1) q2 hst fun a' w' h' hd' r'=>ZK hC hF hlow fp hQ L s1 a' w' h' hd' r' hr
theorem XF (hC:rW P C) {ops:Array Oper} {l ext:List aY} (hF:U2 w0 ops) (hlow:aT (nQ P nt ops) ops.toList = some (l.map aY.bare ++ ext)) (fp:Nat->Fp) {Q:Exit->Act->World->Prop} {s' : Fn} {rest:List Nat} (hQ:∀ a' w' h' hd',Rl nt w0 h0 s'.1 s'.2 a' w' h' hd'->wpOps P ops Q rest a' w') :
  ∀ (L:List Nat) (s:Fn) (a:Act) (w:World) (h:Hp) (hd:Nat->Value),Rl nt w0 h0 s.1 s.2 a w h hd->tL C l fp L s s'->wpOps P ops Q (L ++ rest) a w
 | [],s,a,w,h,hd,r,hs=>by simp only [tL] at hs; subst hs; exact hQ _ _ _ _ r
 | i :: L,s,a,w,h,hd,r,hs=>by
  obtain ⟨so,s1,ho,hst,hr⟩:=hs
  have hi:i < (l.map aY.bare).length:=by rw [â]; exact (Å.1 ho).1
  obtain ⟨o,q1,q2⟩:=bU hlow (show (l.map aY.bare ++ ext)[i]? = some so.bare by rw [à hi]; simp [ho])
  rw [Č,wpOps_cons]
  exact R9 hC r hF (by simpa using q1) q2 hst fun a' w' h' hd' r'=>XF hC hF hlow fp hQ L s1 a' w' h' hd' r' hr
theorem QL (acc:List Nat):∀ (l:List Oper),∃ r,l.foldl (fun acc o=>acc ++ [(o.after.toList.filter (Region.binds .any)).foldl (fun s e=>s ||| 2 ^ e.on ||| acc.getD e.on 0) 0]) acc = acc ++ r ∧ r.length = l.length
 | []=>⟨[],by simp⟩
 | o :: l=>by
  obtain ⟨r,h1,h2⟩:=QL (acc ++ [(o.after.toList.filter (Region.binds .any)).foldl (fun s e=>s ||| 2 ^ e.on ||| acc.getD e.on 0) 0]) l
  exact ⟨_ :: r,by simp only [þ]; rw [h1,ç]; rfl,by simp [h2]⟩
theorem WJ (acc:List Nat) (j:Nat):∀ (l:List Edge) (s:Nat),(l.foldl (fun s e=>s ||| 2 ^ e.on ||| acc.getD e.on 0) s).testBit j = true->s.testBit j = true ∨ ∃ e ∈ l,j = e.on ∨ (acc.getD e.on 0).testBit j = true
 | [],s,h=>.inl h
 | e :: l,s,h=>by
  simp only [þ] at h
  rcases WJ acc j l _ h with q | ⟨e',h1,h2⟩
  ·rw [Nat.testBit_or,Nat.testBit_or,Bool.or_eq_true,Bool.or_eq_true] at q
   rcases q with (q | q) | q
   ·exact .inl q
   ·rw [Nat.testBit_two_pow] at q
    exact .inr ⟨e,by simp,.inl (of_decide_eq_true q).symm⟩
   ·exact .inr ⟨e,by simp,.inr q⟩
  ·exact .inr ⟨e',by simp [h1],h2⟩
theorem aAG (l:List Oper) (hok:D9 l = true) {i:Nat} {o:Oper} (ho:l[i]? = some o):∀ j,((MF l).getD i 0).testBit j = true->∃ e ∈ o.after,Region.binds .any e = true ∧ (j = e.on ∨ ((MF l).getD e.on 0).testBit j = true):=by
 have hi:i < l.length:=(Å.1 ho).1
 have hsplit:l = l.take i ++ o :: l.drop (i + 1):=by
  have:l[i] = o:=(Å.1 ho).2
  rw [← this]; simp
 obtain ⟨r1,g1,g2⟩:=QL [] (l.take i)
 simp only [Ī] at g1
 have hlen:r1.length = i:=by rw [g2,Ā]; omega
 obtain ⟨r2,g3,g4⟩:=QL (r1 ++ [(o.after.toList.filter (Region.binds .any)).foldl (fun s e=>s ||| 2 ^ e.on ||| r1.getD e.on 0) 0]) (l.drop (i + 1))
 have hanc:MF l = r1 ++ [(o.after.toList.filter (Region.binds .any)).foldl (fun s e=>s ||| 2 ^ e.on ||| r1.getD e.on 0) 0] ++ r2:=by
  unfold MF
  rw [← g3]
  conv=>lhs; rw [hsplit]
  rw [List.foldl_append,þ,g1]
 have hat:(MF l).getD i 0 = (o.after.toList.filter (Region.binds .any)).foldl (fun s e=>s ||| 2 ^ e.on ||| r1.getD e.on 0) 0:=by
  rw [hanc,ç]
  simp [List.getD,hlen]
 intro j hj
 rw [hat] at hj
 rcases WJ r1 j _ 0 hj with q | ⟨e,he,hje⟩
 ·simp at q
 obtain ⟨he1,he2⟩:=ī.1 he
 refine ⟨e,by simpa using he1,he2,?_⟩
 rcases hje with q | q
 ·exact .inl q
 ·refine .inr ?_
  have hlt:e.on < i:=by
   have:=Ì.1 hok (o,i) (by
    rw [æ]; exact ⟨i,by simp [ho]⟩)
   simp only at this
   have h3:=Ē.1 this e (by simpa using he1)
   simpa [he2] using h3
  rw [hanc,ç]
  have:r1.getD e.on 0 = (r1 ++ ([(o.after.toList.filter (Region.binds .any)).foldl (fun s e=>s ||| 2 ^ e.on ||| r1.getD e.on 0) 0] ++ r2)).getD e.on 0:=by
   simp only [ä]
   rw [à (by omega)]
  rw [← this]
  exact q
theorem aAM (hC:rW P C) {ops:Array Oper} {l:List aY} (hF:U2 w0 ops) (hlow:aT (nQ P nt ops) ops.toList = some (l.map aY.bare)) (hok:D9 ops.toList = true) (fp:Nat->Fp) (hind:∀ p ∈ OI ops.toList,Ind l fp p.1 p.2)
  {Q:Exit->Act->World->Prop} {s' : Fn} (hQ:∀ a' w' h' hd',Rl nt w0 h0 s'.1 s'.2 a' w' h' hd'->Q .normal a' w') :
  ∀ (fuel:Nat) (M:List Nat) (listed:Array Bool) (s:Fn) (a:Act) (w:World) (h:Hp) (hd:Nat->Value),M.length = fuel->M.Pairwise (· < ·)->listed.size = ops.size->(∀ i,i ∈ M ↔ i < ops.size ∧ listed.getD i true = false) ->
   (∀ k,listed.getD k false = true->∀ j,((MF ops.toList).getD k 0).testBit j = true->listed.getD j false = true) ->
   Rl nt w0 h0 s.1 s.2 a w h hd->tL C l fp M s s'->wpAny P .any ops Q fuel listed a w:=by
 have hsz:∀ {i:Nat},i < ops.size->∃ o,ops[i]? = some o:=fun {i} hi=>⟨ops[i]'hi,by simp [hi]⟩
 intro fuel
 induction fuel with
 | zero =>
  intro M listed s a w h hd hl hp hs hM hdc r hst
  have:M = []:=Í hl
  subst this
  simp only [tL] at hst
  subst hst
  refine ⟨?_,hQ _ _ _ _ r⟩
  apply List.eq_nil_iff_forall_not_mem.2
  intro i hi
  obtain ⟨h1,o,h2,_⟩:=mem_ready.1 hi
  have:=(hM i).2 ⟨(Ï.1 h2).1,h1⟩
  cases this
 | succ fuel ih =>
  intro M listed s a w h hd hl hp hs hM hdc r hst
  have listed_of:∀ j,j < ops.size->j ∉ M->listed.getD j false = true:=by
   intro j hj hn
   have:listed.getD j true ≠ false:=fun q=>hn ((hM j).2 ⟨hj,q⟩)
   have hjl:j < listed.size:=by omega
   simp only [É] at this ⊢
   simp [hjl] at this ⊢
   exact this
  refine ⟨fun hnil=>?_,fun i hi=>?_⟩
  ·-- the least one is ready
   exfalso
   match M,hl with
   | m :: M',_ =>
    have hm:=(hM m).1 (by simp)
    obtain ⟨o,ho⟩:=hsz hm.1
    have:m ∈ Region.ready .any ops listed:=by
     refine mem_ready.2 ⟨hm.2,o,ho,fun e he hb=>?_⟩
     have hlt:e.on < m:=by
      have h4:=Ì.1 hok (o,m) (by
       rw [æ]; exact ⟨m,by simp [ho]⟩)
      have h3:=Ē.1 h4 e he
      simpa [hb] using h3
     refine listed_of e.on (by omega) fun hmem=>?_
     rcases Û.1 hmem with q | q
     ·omega
     ·have:=(Ą.1 hp).1 _ q; omega
    rw [hnil] at this
    cases this
  ·obtain ⟨hun,o,ho,hall⟩:=mem_ready.1 hi
   have hin:i < ops.size:=(Ï.1 ho).1
   have hiM:i ∈ M:=(hM i).2 ⟨hin,hun⟩
   obtain ⟨A,B,rfl⟩:=List.append_of_mem hiM
   have hanc:∀ j,((MF ops.toList).getD i 0).testBit j = true->listed.getD j false = true:=by
    intro j hj
    obtain ⟨e,he,hb,hje⟩:=aAG ops.toList hok (i:=i) (o:=o) (by simpa using ho) j hj
    have h5:=hall e he hb
    rcases hje with rfl | hje
    ·exact h5
    ·exact hdc _ h5 j hje
   have hpw:=ø.1 hp
   have hbr:=tL.bring hst (fun j hj=>by
    have hji:j < i:=hpw.2.2 j hj i (by simp)
    have hjun:listed.getD j true = false:=((hM j).1 (by simp [hj])).2
    refine hind (j,i) ?_
    simp only [OI]
    refine Î.2 ⟨i,by simpa using hin,Þ.2 ⟨j,ī.2 ⟨by simpa using hji,?_⟩,rfl⟩⟩
    rw [ģ,← Bool.not_eq_true]
    intro hmem
    have:=hanc j hmem
    have hjl:j < listed.size:=by omega
    simp only [É] at hjun this
    simp [hjl] at hjun this
    rw [hjun] at this
    cases this)
   obtain ⟨so,s1,hso,hstep,hrest⟩:=hbr
   obtain ⟨o',q1,q2⟩:=bU hlow (show (l.map aY.bare)[i]? = some so.bare by simp [hso])
   have:o' = o:=by
    have:ops[i]? = some o':=by simpa using q1
    rw [ho] at this
    exact (ã this).symm
   subst this
   refine R9 hC r hF ho q2 hstep fun a' w' h' hd' r'=>ih (A ++ B) (listed.setIfInBounds i true) s1 a' w' h' hd' (by simp at hl ⊢; omega) ?_ (by simpa using hs) ?_ ?_ r' hrest
   ·refine ø.2 ⟨hpw.1,(Ą.1 hpw.2.1).2,fun x hx y hy=>hpw.2.2 x hx y (by simp [hy])⟩
   ·intro k
    have hnd:k ∈ A ++ B ↔ k ∈ A ++ i :: B ∧ k ≠ i:=by
     have hA:i ∉ A:=fun q=>absurd (hpw.2.2 i q i (by simp)) (by omega)
     have hB:i ∉ B:=fun q=>absurd ((Ą.1 hpw.2.1).1 i q) (by omega)
     simp only [Ó,Û]
     constructor
     ·rintro (q | q)
      ·exact ⟨.inl q,fun e=>hA (e ▸ q)⟩
      ·exact ⟨.inr (.inr q),fun e=>hB (e ▸ q)⟩
     ·rintro ⟨q | q | q,hne⟩
      ·exact .inl q
      ·exact absurd q hne
      ·exact .inr q
    rw [hnd,hM k]
    constructor
    ·rintro ⟨⟨g1,g2⟩,g3⟩; exact ⟨g1,by rw [getD_set_ne true (Ļ g3)]; exact g2⟩
    ·rintro ⟨g1,g2⟩
     have g3:k ≠ i:=by
      rintro rfl
      have hkl:k < listed.size:=by omega
      simp [hkl] at g2
     exact ⟨⟨g1,by rw [getD_set_ne true (Ļ g3)] at g2; exact g2⟩,g3⟩
   ·intro k hk j hj
    by_cases hki:k = i
    ·subst hki; exact getD_set_true (hanc j hj)
    ·rw [getD_set_ne false (Ļ hki)] at hk
     exact getD_set_true (hdc k hk j hj)
theorem WR (hC:rW P C) (hm:P.follows .mixedOrders = true) {ops:Array Oper} {l:List aY} (hF:U2 w0 ops) (hlow:aT (nQ P nt ops) ops.toList = some (l.map aY.bare)) {id:Nat} {draw:Bool} {sd:Option (List (Nat × Nat))} (hd:if draw then D9 ops.toList = true ∧ sd = some (OI ops.toList) else sd = none)
  {s s' : St} (hr:fG C l sd s = some s') {hd' : Nat->Value} (r:Rl nt w0 h0 s.get s.blk a w h hd') {Q:Exit->Act->World->Prop} (hQ:∀ a' w' h' hd',Rl nt w0 h0 s'.get s'.blk a' w' h' hd'->Q .normal a' w'):(Code.region id ops draw).wp P Q a w:=by
 have hlen:ops.size = l.length:=by simpa using (bP hlow).1
 cases draw with
 | false =>
  simp only [Æ,È] at hd
  subst hd
  simp only [fG] at hr
  obtain ⟨ps,hps⟩:=S7 hr
  have hst:=rT l (fun i=>ps.getD i ([],[])) (k:=0) (fun i=>by simp) (fun i _=>by simp) hps
  refine wp_region ?_
  have e:(List.range l.length).map (0 + ·) = List.range ops.size:=by rw [hlen]; simp
  rw [e] at hst
  exact ZK hC hF hlow _ (s':=s'.fn) hQ _ s.fn a w h hd' r hst
 | true =>
  simp only [Ë] at hd
  obtain ⟨hok,rfl⟩:=hd
  simp only [fG] at hr
  split at hr
  ·rename_i s2 ps hps
   split at hr
   ·rename_i hap
    cases hr
    have hst:=rT l (fun i=>ps.getD i ([],[])) (k:=0) (fun i=>by simp) (fun i _=>by simp) hps
    have e:(List.range l.length).map (0 + ·) = List.range ops.size:=by rw [hlen]; simp
    rw [e] at hst
    have hind:∀ p ∈ OI ops.toList,Ind l (fun i=>ps.getD i ([],[])) p.1 p.2:=by
     intro p hp x y hx hy
     have:=Ì.1 hap p hp
     obtain ⟨i,j⟩:=p
     simp only at hx hy this ⊢
     rw [hx,hy] at this
     have hpl:=I3 hps
     have hi:=(Å.1 hx).1
     have hj:=(Å.1 hy).1
     have hi' : i < ps.length:=by omega
     have hj' : j < ps.length:=by omega
     have e1:ps[i]? = some (ps.getD i ([],[])):=by simp [List.getD,hi']
     have e2:ps[j]? = some (ps.getD j ([],[])):=by simp [List.getD,hj']
     rw [e1,e2] at this
     exact this
    refine wp_region_any hm ?_
    refine aAM hC hF hlow hok _ hind (s':=s'.fn) hQ ops.size (List.range ops.size) _ s.fn a _ h hd' (by simp) ĳ (by simp) ?_ ?_ r.drew hst
    ·intro i
     simp only [č]
     constructor
     ·intro hi; exact ⟨hi,by simp [hi]⟩
     ·exact fun hi=>hi.1
    ·intro k hk
     exfalso
     simp only [É,Į] at hk
     split at hk <;> simp at hk
   ·cases hr
  ·cases hr
end
end Vm
end
end Go.Proofs.YtoefdnkjcfoccaaDoor
