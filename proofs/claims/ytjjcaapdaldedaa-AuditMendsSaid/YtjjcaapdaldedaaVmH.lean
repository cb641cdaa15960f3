/- A map that is laid and ranged over, each entry written into a row of the call's own: in whatever order. The small machine, read from the front: a range over a map that is laid. A range over a map keyed by numbers, each round of which is code of the small machine: in whatever order. The small machine, read from the front: maps of bools keyed by numbers. The small machine, read from the front: maps of numbers keyed by numbers. The small machine, read from the front: pointers that may be nil, arrays of them. A slice is stored in a field of an element of a slice of one's own, and then one field of each of its elements is set through that field: the small machine sets the fields first, and stores then. Rules for the piece that sets a field of all elements of a slice that stands in a field of an element. 'slices.Sorted(maps.Keys(m))' as one piece: what it does to the state. -/
import Derived.Test.YtjjcaapdaldedaaVmD
import Derived.Maps.RangeWalk
import Derived.WalkArith
import Derived.Test.YtjjcaapdaldedaaVmF
import Derived.Laws.IdiomRangeMap
set_option linter.unusedVariables false
set_option linter.unusedSimpArgs false
namespace Go.Proofs.Ytjjcaapdaldedaa
namespace Vm
open Go.RowKit Go.Maps
section
variable {P:Program} {nt:Nat} {w0:dO} {w w' : World} {h0 h:Hp} {fr:Nat->V} {bl:Nat->Option aH} {a:Act} {hd:Nat->Value}
structure aCd (w0:dO) (h:Hp) (bl:Nat->Option aH) (hd:Nat->Value) (g:Nat):Prop where
 own:w0.own g
 out:h g = none
 off:∀ id b,bl id = some b->b.live = true->gD (hd id) ≠ some g
theorem aCd.new (r:Rl nt w0 h0 fr bl a w h hd) {g:Nat} (hg:w.heap.size <= g):aCd w0 h bl hd g where
 own:=.inl (Nat.le_trans r.below.size hg)
 out:=GO r.hle hg
 off:=fun id b hb hl q=>by have:=((r.blk id b hb).num hl q).2.1; omega
theorem TD (r:Rl nt w0 h0 fr bl a w h hd) {d:Nat} (hd' : d < nt) (cv:Value) (t:Nat):(a.put (some d) cv).tmps.getD t undef = if d = t then cv else a.tmps.getD t undef:=by
 rw [K2 a (some d) cv t nt r.tmps fun x e=>by cases e; exact hd']
 simp only [Option.some.injEq]
theorem JR {ops:Array Oper} {Q:Exit->Act->World->Prop} {K:Act->World->Prop} {i:Nat} {o:Oper} (ho:ops[i]? = some o) (hg:o.guard = none) (h:o.wp P a w K Q):wpOp P ops Q i K a w:=by
 unfold wpOp
 rw [ho]
 simp only
 rw [if_pos (by simp [Region.wanted,hg])]
 exact .inl h
inductive aNW where
 | vm (so:aM)
 | ins (k t:Nat)
theorem qW {o:Oper} {ρ:Operand->Value} {x:Operand} (h:o.op = .assign x ∨ o.op = .move x):execOp ρ o = (do pure (.value (← (pure (ρ x):Sem Value)))):=by rcases h with h | h <;> simp [execOp,h]
def zT (dead:List Nat) (fr0 fr:Nat->V):Prop:=∀ t,t ∉ dead->fr t = fr0 t
theorem zT.upd {dead:List Nat} {fr0 fr:Nat->V} (h:zT dead fr0 fr) {d:Nat} (hd:d ∈ dead) (v:V):zT dead fr0 (dJ fr (some d) v):=fun t ht=>by
 have:d ≠ t:=fun e=>ht (e ▸ hd)
 simp only [dJ,Option.some.injEq,if_neg this]
 exact h t ht
structure aJ3 where
 it:Nat
 nx:Nat
 ok:Nat
 en:Nat
 k1:Nat
 v1:Nat
 kk:Nat
 vv:Nat
 d1:Nat
 d2:Nat
 d3:Nat
 dc:Nat
 da:Nat
 out:Nat
def aJ3.slots (L:aJ3):List Nat:=[L.nx,L.ok,L.en,L.k1,L.v1,L.kk,L.vv,L.d1,L.d2,L.d3,L.dc,L.da]
theorem aI3 (r:Rl nt w0 h0 fr bl a w h hd) (hF:∀ t,w0.F t = none) {d:Nat} (hd' : d < nt) (cv:Value) (v:V) (hv:R3 h hd bl cv v) :
  ∃ a',a.put (some d) cv = a' ∧ Rl nt w0 h0 (dJ fr (some d) v) bl a' w h hd ∧ a'.tmps.getD d undef = cv ∧ ∀ t,t ≠ d->a'.tmps.getD t undef = a.tmps.getD t undef :=
 ⟨_,rfl,r.put0 (some d) cv v (fun x e=>by cases e; exact ⟨hd',hF d⟩) hv,by rw [TD r hd',if_pos rfl],fun t ht=>by rw [TD r hd',if_neg (Ne.symm ht)]⟩
def aMF:Code->Code
 | .seq a _=>a
 | c=>c
def HN:Code->Code
 | .seq _ b=>b
 | c=>c
theorem YX {P:Program} {e:TypeId} {z:Value} {s b:Nat} (h:(P.info? e).map (fun i=>(i.zero,i.size,i.bytes)) = some (some z,s,b)):∃ i,P.info? e = some i ∧ i.zero = some z ∧ i.size = s ∧ i.bytes = b:=by
 cases hi:P.info? e with
 | none=>rw [hi] at h; cases h
 | some i=>rw [hi] at h; simp only [Option.map_some,Option.some.injEq,Prod.mk.injEq] at h; exact ⟨i,rfl,h.1,h.2.1,h.2.2⟩
def aJg {α:Type} (Q:α->Prop):List α->Prop
 | []=>True
 | x :: l=>Q x ∧ aJg Q l
theorem aJg.all {α:Type} {Q:α->Prop}:∀ {l:List α},aJg Q l->∀ x ∈ l,Q x
 | [],_,x,h=>by simp at h
 | y :: l,q,x,h=>by
  rcases List.mem_cons.1 h with rfl | h
  ·exact q.1
  ·exact aJg.all q.2 x h
end
end Vm
end Go.Proofs.Ytjjcaapdaldedaa
namespace Go.Proofs.Ytjjcaapdaldedaa
namespace Vm
open Go.RowKit
section
variable {β:Type} {T:zS} {fr:List (Nat × V)} {bl:List (Nat × Option aH)}
def QT:List Nat->List (Nat × V)->List (Nat × V)
 | [],fr=>fr
 | t :: l,fr=>(t,.any) :: QT l fr
theorem SS:QT [] fr = fr:=rfl
theorem P2 (t:Nat) (l:List Nat):QT (t :: l) fr = (t,.any) :: QT l fr:=rfl
end
end Vm
end Go.Proofs.Ytjjcaapdaldedaa
namespace Go.Proofs.Ytjjcaapdaldedaa
namespace Vm
open Go.RowKit Go.Maps
def dO.now (b:dO) (w:World) (rr it:Nat) (itv:Value):dO:={ w with L:=fun g=>b.own g ∧ g ≠ rr ∧ g < w.heap.size,F:=fun i=>if i = it then some itv else none,O:=b.O }
section
variable {P:Program} {nt:Nat} {w0:dO} {w w' : World} {h0 h h' : Hp} {fr fr' : Nat->V} {bl bl' : Nat->Option aH} {a a' : Act} {hd hd' : Nat->Value} {rr it:Nat} {itv:Value}
theorem U4 {b:dO} (hs:b.heap.size <= w.heap.size) {g:Nat} (h:(b.now w rr it itv).own g):b.own g:=by
 rcases h with h | h
 ·exact .inl (Nat.le_trans hs h)
 ·exact h.1
theorem aAe {b:dO} (hlt:rr < w.heap.size):¬ (b.now w rr it itv).own rr:=by
 rintro (h | h)
 ·exact absurd h (Nat.not_le_of_lt hlt)
 ·exact h.2.1 rfl
theorem BR.rebase {b0 b1:dO} {id:Nat} {b:aH} (hown:b.live = true->∀ g,gD (hd id) = some g->b0.own g) (hO:b0.O = b1.O) (r:BR b1 w h hd bl id b):BR b0 w h hd bl id b:=by
 cases b with
 | box cs =>
  obtain ⟨g,arr,e,h1,h2,h3⟩:=r
  exact ⟨g,arr,e,h1,hown rfl g (by rw [h1]; rfl),h3⟩
 | rows ver e size rows =>
  obtain ⟨h1,h2,h3,h4⟩:=r
  exact ⟨h1,h2,h3,fun g hg=>⟨(h4 g hg).1,hown rfl g hg⟩⟩
 | froz ver rows=>exact r
 | fbox cs=>exact r
 | mp ek m =>
  obtain ⟨g,h1,h2,h3⟩:=r
  exact ⟨g,h1,hown rfl g (by rw [h1]; rfl),h3⟩
 | fmp ek m=>exact r
 | outer cs =>
  intro j x hx
  rw [hO]
  exact r j x hx
theorem Rl.now (r:Rl nt w0 h0 fr bl a w h hd) (hS:aCd w0 h bl hd rr) (hit:a.tmps.getD it undef = itv):Rl nt (w0.now w rr it itv) h fr bl a w h hd where
 tmps:=r.tmps
 defers:=r.defers
 fixed:=fun t v e=>by
  simp only [dO.now] at e
  split at e
  ·rename_i q; cases e; rw [q]; exact hit
  ·cases e
 below:=CX.refl _ _
 hle:=r.hle
 h0le:=Hp.le.refl _
 hbase:=fun _ _=>rfl
 frame:=r.frame
 blk:=fun id b hb=>BR.rebase (b1:=w0) (fun hl g hg=>by
  obtain ⟨q1,q2,_⟩:=(r.blk id b hb).num hl hg
  exact .inr ⟨q1,fun e=>hS.off id b hb hl (e ▸ hg),q2⟩) rfl (r.blk id b hb)
 sep:=r.sep
theorem Rl.back (hF:∀ t,w0.F t = none) (r:Rl nt w0 h0 fr bl a w h hd) (r' : Rl nt (w0.now w rr it itv) h fr' bl' a' w' h' hd'):Rl nt w0 h0 fr' bl' a' w' h' hd' where
 tmps:=r'.tmps
 defers:=r'.defers
 fixed:=fun t v e=>by rw [hF t] at e; cases e
 below:=r.below.trans ⟨r'.below.os,r'.below.tape,r'.below.output,r'.below.size,fun k hk=>r'.below.block k fun q=>hk (U4 r.below.size q)⟩
 hle:=r'.hle
 h0le:=r.h0le.trans r'.h0le
 hbase:=fun b hb=>(r'.hbase b fun q=>hb (U4 r.below.size q)).trans (r.hbase b hb)
 frame:=r'.frame
 blk:=fun id b hb=>BR.rebase (b1:=w0.now w rr it itv) (fun hl g hg=>U4 r.below.size ((r'.blk id b hb).num hl hg).1) rfl (r'.blk id b hb)
 sep:=r'.sep
theorem aCd.back (hS:aCd w0 h bl hd rr) (hlt:rr < w.heap.size) (r' : Rl nt (w0.now w rr it itv) h fr' bl' a' w' h' hd'):aCd w0 h' bl' hd' rr ∧ w'.heap[rr]? = w.heap[rr]? :=
 ⟨⟨hS.own,(r'.hbase rr (aAe hlt)).trans hS.out,fun id b hb hl q=>aAe hlt ((r'.blk id b hb).num hl q).1⟩,r'.below.block rr (aAe hlt)⟩
theorem aHT (s:St) (d:Nat) (v:V):(s.put (some d) v []).get = dJ s.get (some d) v:=by
 funext t; simp only [St.put,St.get,lk,dJ,Option.some.injEq]
 by_cases e:t = d
 ·simp [e]
 ·rw [if_neg e,if_neg (Ne.symm e)]
structure aBw where
 it:Nat
 nx:Nat
 ok:Nat
 en:Nat
 k1:Nat
 kk:Nat
def aBw.slots (L:aBw):List Nat:=[L.nx,L.ok,L.en,L.k1,L.kk]
structure aOa (L:aBw) (oN oX e0 e1 e2:Oper):Prop where
 hN:oN.guard = none ∧ oN.op = .next (.tmp L.it) false ∧ oN.dst = some L.nx
 hX:oX.guard = none ∧ oX.op = .extract (.tmp L.nx) 0 ∧ oX.dst = some L.ok
 h0:e0.guard = none ∧ e0.op = .entry (.tmp L.it) ∧ e0.dst = some L.en
 h1:e1.guard = none ∧ e1.op = .extract (.tmp L.en) 0 ∧ e1.dst = some L.k1
 h2:e2.guard = none ∧ (e2.op = .assign (.tmp L.k1) ∨ e2.op = .move (.tmp L.k1)) ∧ e2.dst = some L.kk
def aL0 (l:List (Int × ML)) (k:Int):Bool:=l.any fun p=>decide (p.1 = k)
structure aN2 (ek0:Nat) (C:Nat->List D->Option D) (n m:Nat) (L:aBw) (sc:aF) (s s2:St):Prop where
 ex:∃ (ek:Nat) (l:List (Int × ML)) (Inv:(Int->Bool)->(Nat->V)->(Nat->Option aH)->Prop),(frT m s).get m = .d (.mp ek l) ∧ (ek = ek0 ∨ ek = 2) ∧
  (∀ left fr bl fr',Inv left fr bl->(∀ t,t ∉ L.it :: L.slots->fr' t = fr t)->Inv left fr' bl) ∧
  (∀ left (s:St) (k:Int),sA k->Inv left s.get s.blk->left k = true->s.get L.kk = .d (.int .i64 k)->∃ s',bA C n sc s = some (.normal,s') ∧ Inv (fun z=>left z && !decide (z = k)) s'.get s'.blk) ∧
  Inv (fun k=>aL0 l k) (frT m s).get (frT m s).blk ∧
  ∀ s' : St,Inv (fun _=>false) s'.get s'.blk->(∀ t,s2.get t = .any ∨ s2.get t = s'.get t) ∧ s2.blk = s'.blk
def E4 (dead:List Nat) (fr:List (Nat × V)):List (Nat × V):=dead.map (fun t=>(t,V.any)) ++ fr
theorem MX (dead:List Nat) (s:St) (b:List (Nat × Option aH)) (t:Nat):(⟨E4 dead s.fr,b⟩ : St).get t = if t ∈ dead then .any else s.get t:=by
 show lk (dead.map (fun t=>(t,V.any)) ++ s.fr) .any t = _
 rw [QQ,UM (fun _=>V.any) _ t dead]
 split
 ·rfl
 ·rfl
theorem aEl (s:St) (dst:Option Nat) (v:V) (wr:List (Nat × Option aH)):(s.put dst v wr).blk = bG s.blk wr:=by
 funext i
 show lk (wr ++ s.bl) none i = lk wr (s.blk i) i
 exact QQ wr s.bl none i
theorem ZG (bl:Nat->Option aH) (id:Nat) (x y:Option aH):bG (bG bl [(id,x)]) [(id,y)] = bG bl [(id,y)]:=by
 funext q; simp only [bG,lk]; split <;> rfl
theorem aCm (bl:Nat->Option aH) (id:Nat) (x:Option aH) (h:bl id = x):bG bl [(id,x)] = bl:=by
 funext q
 by_cases e:q = id
 ·subst e; rw [jO,h]
 ·rw [uR _ _ e]
end
def aKp:Code->Code
 | .block _ c=>c
 | .loop c=>c
 | c=>c
section
variable {P:Program} {nt:Nat}
theorem aD.cond {co:Operand} {o:bS} {c d:Code} {x y:aF} (h0:iI co = some o) (h1:aD P nt c x) (h2:aD P nt d y):aD P nt (.cond co c d) (.cond o x y):=by
 intro C hC n w0 h0' s s' ex a w h hd Q hF he r hQ
 have hc:=aU r.frame h0
 simp only [bA] at he
 split at he
 ·rename_i hb
  rw [hb] at hc
  exact wp_cond_true (qR hc) (h1 C hC n w0 h0' s s' ex a w h hd Q hF he r hQ)
 ·rename_i hb
  rw [hb] at hc
  exact wp_cond_false (qR hc) (h2 C hC n w0 h0' s s' ex a w h hd Q hF he r hQ)
 ·cases he
theorem aD.block {id:Nat} {c:Code} {x:aF} (h1:aD P nt c x):aD P nt (.block id c) (.block id x):=by
 intro C hC n w0 h0 s s' ex a w h hd Q hF he r hQ
 refine wp_block ?_
 simp only [bA] at he
 split at he
 ·rename_i id'' s1 he1
  refine h1 C hC n w0 h0 s s1 (.exit id'') a w h hd _ hF he1 r fun a' w' h' hd' r'=>?_
  simp only [Ex.go,Exit.inBlock]
  split at he
  ·rename_i hid
   cases he
   rw [if_pos hid]
   exact hQ _ _ _ _ r'
  ·rename_i hid
   cases he
   rw [if_neg hid]
   exact hQ _ _ _ _ r'
 ·rename_i hne
  refine h1 C hC n w0 h0 s s' ex a w h hd _ hF he r fun a' w' h' hd' r'=>?_
  cases ex with
  | normal=>exact hQ _ _ _ _ r'
  | exit id=>exact absurd he (hne _ _)
  | ret=>exact hQ _ _ _ _ r'
theorem aD.loop {c:Code} {x:aF} (h1:aD P nt c x):aD P nt (.loop c) (.loop x):=by
 intro C hC n w0 h0 s s' ex a w h hd Q hF he r hQ
 simp only [bA] at he
 refine QL (fun k a w=>∃ s h hd,yM (bA C n x) k s = some (ex,s') ∧ Rl nt w0 h0 s.get s.blk a w h hd) (fun a w ⟨s,h,hd,q,_⟩=>by simp [yM] at q) ?_ n a w ⟨s,h,hd,he,r⟩
 rintro k a w ⟨s,h,hd,q,r⟩
 simp only [yM] at q
 split at q
 ·rename_i s1 he1
  exact h1 C hC n w0 h0 s s1 .normal a w h hd _ hF he1 r fun a' w' h' hd' r'=>⟨s1,h',hd',q,r'⟩
 ·rename_i hne
  refine h1 C hC n w0 h0 s s' ex a w h hd _ hF q r fun a' w' h' hd' r'=>?_
  cases ex with
  | normal=>exact absurd q (hne _)
  | exit id=>exact hQ _ _ _ _ r'
  | ret=>exact hQ _ _ _ _ r'
end
end Vm
end Go.Proofs.Ytjjcaapdaldedaa
namespace Go.Proofs.Ytjjcaapdaldedaa
namespace Vm
open Go.RowKit
abbrev MB:=List (Int × Bool)
def mB (m:MB):List (Int × ML):=m.map fun p=>(p.1,ML.b p.2)
def eB:Option MB->D
 | none=>.mp 2 []
 | some m=>.mp 1 (mB m)
section
variable {β:Type} {T:zS} {d:Nat} {fr:List (Nat × V)} {bl:List (Nat × Option aH)} {k:V->Option β} {kw:V->List (Nat × Option aH)->Option β}
section
variable (keep:List Nat)
end
theorem aIU (dead:List Nat) (fr:List (Nat × V)):E4 dead fr = QT dead fr:=by
 induction dead with
 | nil=>rfl
 | cons t l ih =>
  show (t,V.any) :: E4 l fr = (t,V.any) :: QT l fr
  rw [ih]
end
end Vm
end Go.Proofs.Ytjjcaapdaldedaa
namespace Go.Proofs.Ytjjcaapdaldedaa
namespace Vm
open Go.RowKit
section
variable {β:Type} {T:zS} {d:Nat} {fr:List (Nat × V)} {bl:List (Nat × Option aH)} {k:V->Option β} {kw:V->List (Nat × Option aH)->Option β}
theorem aJe (op:gG) (m:bS) (k:List Nat->Option β) (h1:op.new = false) (h2:op.peeks = [m]) (h3:op.deeps = []):KW d op fr bl k = dL fr m fun v=>GY v k:=by
 unfold KW dL GY
 rw [h1,h2,h3]
 simp
end
end Vm
end Go.Proofs.Ytjjcaapdaldedaa
namespace Go.Proofs.Ytjjcaapdaldedaa
namespace Vm
open Go.RowKit
def RQ {α:Type} (c:α->List D):Option α->D
 | none=>.np
 | some x=>.ptr (c x) 0
section
variable {β α:Type} {T:zS} {d:Nat} {fr:List (Nat × V)} {bl:List (Nat × Option aH)} {k:V->Option β} {kw:V->List (Nat × Option aH)->Option β}
def WR (neg:Bool) (v:V) (k:V->Option β):Option β:=match WJ neg v with
 | some d=>k (.d d)
 | none=>none
theorem aFE (neg:Bool) (x:bS):yN T d (.isnp neg x) fr bl k kw = dL fr x fun a=>WR neg a k:=by
 unfold yN dL WR
 simp only [b7]
 cases WJ neg (bH (lk fr .any) x) <;> rfl
theorem aFn (neg:Bool):WR neg (.d .np) k = k (.d (.bool (!neg))):=rfl
theorem aGI (c:α->List D) (x:Option α):WR false (.d (RQ c x)) k = k (.d (.bool x.isNone)):=by cases x <;> rfl
theorem aG4 (c:α->List D) (x:Option α):WR true (.d (RQ c x)) k = k (.d (.bool x.isSome)):=by cases x <;> rfl
theorem aLq (c:α->List D) (x:Option α):aLE (.d (RQ c x)) bl k = x.bind fun y=>k (.d (.ptr (c y) 0)):=by cases x <;> rfl
def iaK (n size:Nat) (x i:V) (bl:List (Nat × Option aH)) (k:V->Option β):Option β:=match i with
 | .d (.int _ q)=>if 0 <= q ∧ q < n then faK (q.toNat * size) x bl k else none
 | _=>none
theorem UX (n size:Nat) (x i:bS):yN T d (.indexArr n size x i) fr bl k kw = dL fr x fun a=>dL fr i fun b=>iaK n size a b bl k:=by
 unfold yN dL iaK
 simp only [b7]
 generalize bH (lk fr .any) x = a
 generalize bH (lk fr .any) i = b
 cases b with
 | d y =>
  cases y with
  | int kd q =>
   dsimp only
   by_cases h:0 <= q ∧ q < n
   ·rw [if_pos h,if_pos h]
    unfold faK
    cases a with
    | d z=>cases z <;> rfl
    | orow id ver i off =>
     dsimp only
     unfold cV U8
     cases lk bl none id with
     | none=>rfl
     | some b =>
      cases b with
      | rows v e s r=>dsimp only; by_cases hv:ver = v <;> simp [hv]
      | _=>rfl
    | _=>rfl
   ·rw [if_neg h,if_neg h]
  | _=>rfl
 | _=>rfl
theorem aLo (kd:IntKind) (size id off:Nat):iaK 2 size (.ptr id off) (.d (.int kd 0)) bl k = k (.ptr id off):=by
 show (if (0:Int) <= 0 ∧ (0:Int) < ((2:Nat):Int) then faK (0 * size) (.ptr id off) bl k else none) = _
 rw [if_pos (by decide),Nat.zero_mul]
 rfl
theorem aKM (kd:IntKind) (id off:Nat):iaK 2 1 (.ptr id off) (.d (.int kd 1)) bl k = k (.ptr id (off + 1)):=by
 show (if (0:Int) <= 1 ∧ (1:Int) < ((2:Nat):Int) then faK (1 * 1) (.ptr id off) bl k else none) = _
 rw [if_pos (by decide)]
 rfl
def ixK (n:Nat) (x i:V) (k:V->Option β):Option β:=match i with
 | .d (.int _ q)=>if 0 <= q ∧ q < n then (match x with
  | .agg cs=>if cs.length = n then cs[q.toNat]?.bind k else none
  | _=>none) else none
 | _=>none
theorem aGe (n:Nat) (x i:bS):yN T d (.idxA n x i) fr bl k kw = dL fr x fun a=>dL fr i fun b=>ixK n a b k:=by
 unfold yN dL ixK
 simp only [b7]
 generalize bH (lk fr .any) x = a
 generalize bH (lk fr .any) i = b
 cases b with
 | d y =>
  cases y with
  | int kd q =>
   dsimp only
   by_cases h:0 <= q ∧ q < n
   ·rw [if_pos h,if_pos h]
    cases a with
    | agg cs =>
     dsimp only
     by_cases hl:cs.length = n
     ·rw [if_pos hl,if_pos hl]
      cases cs[q.toNat]? <;> rfl
     ·rw [if_neg hl,if_neg hl]
    | _=>rfl
   ·rw [if_neg h,if_neg h]
  | _=>rfl
 | _=>rfl
theorem aKA (ds:List D) (kd:IntKind) (q:Int):ixK 2 (jQ ds) (.d (.int kd q)) k = rH ds 2 (if q = 0 then dM ds 0 fun x=>k (.d x) else if q = 1 then dM ds 1 fun x=>k (.d x) else none):=by
 show (if 0 <= q ∧ q < ((2:Nat):Int) then (if (aR ds).length = 2 then (aR ds)[q.toNat]?.bind k else none) else none) = _
 unfold rH
 have hl:(aR ds).length = ds.length:=PK ds
 rw [hl]
 by_cases h2:ds.length = 2
 ·rw [if_pos h2,if_pos h2]
  match ds,h2 with
  | [a,b],_ =>
   by_cases q0:q = 0
   ·subst q0
    rfl
   ·rw [if_neg q0]
    by_cases q1:q = 1
    ·subst q1
     rfl
    ·rw [if_neg q1,if_neg (by omega)]
 ·rw [if_neg h2,if_neg h2]
  split <;> rfl
theorem aG1 (n:Bool) (x:bS) (k:List Nat->Option β):KW d (.isnp n x) fr bl k = k []:=rfl
theorem TN (n s:Nat) (x i:bS) (k:List Nat->Option β):KW d (.indexArr n s x i) fr bl k = dL fr x fun v=>GY v k:=aJe _ _ _ rfl rfl rfl
def FS (bl:List (Nat × Option aH)) (cs:List V) (k:List D->List (Nat × Option aH)->Option β) (y:Option β):Option β:=match aJ (rA (lk bl none)) cs with
 | some ds=>k ds (cs.flatMap (JV (lk bl none)))
 | none=>y
theorem aGW (id off:Nat) (c:V) (cs:List V) (k:V->List (Nat × Option aH)->Option β) (y:Option β):aKC id off (some (.box (c :: cs))) bl k y = FS bl (c :: cs) (fun ds f=>k (.d (.ptr ds off)) ((id,some (.fbox ds)) :: f)) y:=rfl
theorem aDd (k:List D->List (Nat × Option aH)->Option β) (y:Option β):FS bl [] k y = k [] []:=rfl
theorem QV (v:V) (cs:List V) (k:List D->List (Nat × Option aH)->Option β) (y:Option β):FS bl (v :: cs) k y = match rA (lk bl none) v with
 | some x=>FS bl cs (fun ds f=>k (x :: ds) (JV (lk bl none) v ++ f)) y
 | none=>y:=by
 unfold FS
 rw [List.flatMap_cons]
 simp only [aJ]
 cases rA (lk bl none) v with
 | none=>rfl
 | some x =>
  dsimp only
  cases aJ (rA (lk bl none)) cs <;> rfl
theorem aHD (x:D) (cs:List V) (k:List D->List (Nat × Option aH)->Option β) (y:Option β):FS bl (.d x :: cs) k y = FS bl cs (fun ds f=>k (x :: ds) f) y:=by
 rw [QV]
 rfl
def aEx (id ver:Nat) (b:Option aH) (bl:List (Nat × Option aH)) (cs:List V) (k:List D->List (Nat × Option aH)->Option β) (y:Option β):Option β:=match b with
 | some (.rows v _ _ rows)=>if ver = v then FS bl cs (fun ds f=>k (.sl rows :: ds) ((id,some (.froz v rows)) :: f)) y else y
 | some (.froz v rows)=>if ver = v then FS bl cs (fun ds f=>k (.sl rows :: ds) f) y else y
 | _=>y
theorem aDI (id ver:Nat) (cs:List V) (k:List D->List (Nat × Option aH)->Option β) (y:Option β):FS bl (.own id ver :: cs) k y = cV bl id fun b=>aEx id ver b bl cs k y:=by
 rw [QV]
 unfold cV aEx
 simp only [rA,JV]
 generalize lk bl none id = b
 cases b with
 | none=>rfl
 | some b =>
  cases b with
  | rows v e s r =>
   dsimp only
   by_cases hv:ver = v
   ·rw [if_pos hv,if_pos hv]; rfl
   ·rw [if_neg hv,if_neg hv]
  | froz v r =>
   dsimp only
   by_cases hv:ver = v
   ·rw [if_pos hv,if_pos hv]; rfl
   ·rw [if_neg hv,if_neg hv]
  | _=>rfl
theorem Z8 (id v e s:Nat) (rows:List (List D)) (cs:List V) (k:List D->List (Nat × Option aH)->Option β) (y:Option β):aEx id v (some (.rows v e s rows)) bl cs k y = FS bl cs (fun ds f=>k (.sl rows :: ds) ((id,some (.froz v rows)) :: f)) y:=if_pos rfl
theorem Z6 (off id f:Nat) (vs:List V) (c:V) (cs:List V) (kw:V->List (Nat × Option aH)->Option β):fK 1 off id (.fn f vs) (some (.box (c :: cs))) kw = B0 (c :: cs) off (.fn f vs) fun l=>kw .any [(id,some (.box l))]:=GN off id _ c cs rfl rfl
theorem aFt (i:Nat) (l:List V):uH i ([] ++ l) = uH i l:=rfl
theorem aGz (i:Nat) (v:V) (l m:List V):uH i ((v :: l) ++ m) = uH i (v :: (l ++ m)):=rfl
end
end Vm
end Go.Proofs.Ytjjcaapdaldedaa
namespace Go.Proofs.Ytjjcaapdaldedaa
namespace Vm
open Go.RowKit
abbrev F4 (o:Oper) (op:Op) (d:Option Nat):Prop:=o.guard = none ∧ o.op = op ∧ o.dst = d
section
variable {P:Program} {w:World}
theorem GF {s f:Nat} {fs:Array Field} {fd:Field} {i:TypeInfo} (hs:P.underlying s = some (.struct fs)) (hf:fs[f]? = some fd) (hi:P.info? fd.type = some i) (hz:i.size ≠ 0) (g o:Nat) :
  (Instr.fieldAt s (.pointer (some ⟨g,o,none⟩)) f).run P w = .ok (.pointer (some ⟨g,o + fd.offset,none⟩)) w:=by
 simp [Instr.fieldAt,run_underlying hs,hf,Instr.sureAddr,fieldPlace,fQ hi,hz,Result.andThen,Addr.add_lit]
theorem OH {t e:TypeId} {i:TypeInfo} (ht:P.underlying t = some (.slice e)) (hi:P.info? e = some i) (g o n c:Nat) (k:IntKind) (q:Int) (h1:0 <= q) (h2:q.toNat < n) :
  (Instr.indexAt t (.slice (some ⟨g,o,none⟩) n c) (.int k q)).run P w = .ok (.pointer (some ⟨g,o + q.toNat * i.size,none⟩)) w:=by
 have h3:q < n:=by omega
 simp [Instr.indexAt,run_underlying ht,asIntOf,h1,h3,fQ hi,Result.andThen,Addr.add_lit]
theorem S6 {t:TypeId} {i:TypeInfo} (hb:lJ P t = some false) (hi:P.info? t = some i) {g off:Nat} {u:Value} (hc:w.cell? ⟨g,off,none⟩ = some u) :
  (Instr.loadAt t (.pointer (some ⟨g,off,none⟩))).run P w = .ok u w:=by
 have:=jK (P:=P) (w:=w) hb hi g off [u] (by simp) (fun j x hj=>by
  match j with
  | 0=>cases hj; exact hc
  | j + 1=>cases hj)
 simpa [Instr.loadAt,Instr.sureAddr] using this
def spl (cur:Array Value) (o:Nat) (u:Value):Array Value:=(cur.toList.take o ++ [u] ++ cur.toList.drop (o + 1)).toArray
theorem aJc (cur:Array Value) (o:Nat) (u:Value) (ho:o < cur.size) (j:Nat):(spl cur o u)[j]? = if j = o then some u else cur[j]?:=by
 have:=B4 cur.toList [u] o j (by simp; omega)
 simp only [List.length_singleton] at this
 unfold spl
 rw [List.getElem?_toArray,this]
 by_cases e:j = o
 ·subst e; simp
 ·rw [if_neg e,if_neg (by simp; omega)]; simp
theorem EV {t:TypeId} {i:TypeInfo} (hi:P.info? t = some i) (hz:i.size = 1) {g off e:Nat} {cur:Array Value} {u:Value} (hg:w.heap[g]? = some (.cells cur e (0,0))) (ho:off < cur.size) (hu:u.cells = #[u]) (h1:u.oneCell' = true) :
  (Instr.storeAt t (.pointer (some ⟨g,off,none⟩)) u).run P w = .ok () (w.setRow g (spl cur off u)):=by
 have hrun:=run_storeCells_at P g off e [u] 0 cur w hg (by simp; omega) (by simpa using h1)
 simp only [Nat.add_zero,List.length_singleton] at hrun
 simp [Instr.storeAt,Instr.sureAddr,storeVar,fQ hi,hz,hu,Result.andThen,hrun,spl]
theorem WD (w:World) {g k:Nat} (h:g ≠ k) (c d:Array Value):(w.setRow g c).setRow k d = (w.setRow k d).setRow g c:=by
 unfold World.setRow
 simp only
 congr 1
 refine Array.ext_getElem? fun i=>?_
 simp only [Array.getElem?_modify]
 by_cases e:g = i
 ·subst e
  simp [Ne.symm h]
 ·simp [e]
end
section
variable {P:Program} {nt:Nat} {w0:dO} {w wV:World} {h0 h:Hp} {fr:Nat->V} {bl:Nat->Option aH} {a:Act} {hd:Nat->Value}
theorem n7 {ops:Array Oper} {Q:Exit->Act->World->Prop} {i:Nat} {rest:List Nat} {o:Oper} {d:Nat} {cv:Value} (ho:ops[i]? = some o) (hg:o.guard = none) (hdst:o.dst = some d) (r:Rl nt w0 h0 fr bl a wV h hd) (hF:∀ t,w0.F t = none) (hdn:d < nt)
  {s:Sem Value} (he:execOp a.eval o = (do pure (.value (← s)))) (hr:s.run P w = .ok cv w)
  (hK:∀ a',Rl nt w0 h0 (dJ fr (some d) .any) bl a' wV h hd->a'.tmps.getD d undef = cv->(∀ t,t ≠ d->a'.tmps.getD t undef = a.tmps.getD t undef)->wpOps P ops Q rest a' w):wpOps P ops Q (i :: rest) a w:=by
 rw [wpOps_cons]
 refine JR ho hg (eK he hr ?_)
 rw [hdst]
 obtain ⟨a',f1,ra,ga,oa⟩:=aI3 r hF hdn cv .any trivial
 rw [f1]
 exact hK a' ra ga oa
end
theorem aD2 {o:Oper} {x:Operand} {t:TypeId} (h:o.op = .call { callee:=.builtin .len,args:=#[x],argTypes:=#[t] }) (ρ:Operand->Value):execOp ρ o = (do pure (.value (← Builtin.len_ #[t] o.type #[ρ x]))):=by
 simp [execOp,h,resolve,invoke,builtin]
structure KU where
 tB:Nat
 tI:Nat
 tK:Nat
 q0:Nat
 c1:Nat
 c2:Nat
 c3:Nat
 c4:Nat
 c5:Nat
 c6:Nat
 ln:Nat
 ls:Nat
 e1:Nat
 e2:Nat
 e3:Nat
 e4:Nat
 e5:Nat
 e6:Nat
 k2:Nat
 ix:Nat
 fa:Nat
 u1:Nat
 u2:Nat
def KU.all (L:KU):List Nat:=[L.tK,L.q0,L.c1,L.c2,L.c3,L.c4,L.c5,L.c6,L.ln,L.ls,L.e1,L.e2,L.e3,L.e4,L.e5,L.e6,L.k2,L.ix,L.fa,L.u1,L.u2]
structure KU.Ok (L:KU):Prop where
 a1:L.q0 ∉ [L.c1,L.c2,L.c3,L.c4,L.c5,L.c6]
 a2:L.q0 ≠ L.ln
 k1:L.tK ≠ L.ls
 k2:L.tK ≠ L.ln
 k3:L.tK ∉ [L.c1,L.c2,L.c3,L.c4,L.c5,L.c6]
 k4:L.tK ≠ L.q0
 k5:L.tK ∉ [L.e1,L.e2,L.e3,L.e4,L.e5,L.e6]
 k6:L.tK ≠ L.fa
 k7:L.tK ≠ L.ix
 k8:L.tK ≠ L.k2
 e6:L.e6 ≠ L.k2
structure SC (P:Program) where
 tR:TypeId
 fR:Nat
 tS:TypeId
 tO:TypeId
 fO:Nat
 tC:TypeId
 tE:TypeId
 fE:Nat
 tW:TypeId
 fsR:Array Field
 fdR:Field
 fsO:Array Field
 fdO:Field
 fsE:Array Field
 fdE:Field
 iS:TypeInfo
 iO:TypeInfo
 iC:TypeInfo
 iE:TypeInfo
 iW:TypeInfo
 h1:P.underlying tR = some (.struct fsR) ∧ fsR[fR]? = some fdR ∧ P.info? fdR.type = some iS ∧ (iS.size == 0) = false
 h2:lJ P tS = some false ∧ P.info? tS = some iS ∧ P.underlying tS = some (.slice tO) ∧ P.info? tO = some iO
 h3:P.underlying tO = some (.struct fsO) ∧ fsO[fO]? = some fdO ∧ P.info? fdO.type = some iC ∧ (iC.size == 0) = false
 h4:lJ P tC = some false ∧ P.info? tC = some iC ∧ P.underlying tC = some (.slice tE) ∧ P.info? tE = some iE
 h5:P.underlying tE = some (.struct fsE) ∧ fsE[fE]? = some fdE ∧ P.info? fdE.type = some iW ∧ (iW.size == 0) = false
 h6:P.info? tW = some iW ∧ iW.size = 1
def DW (P:Program) (t:TypeId):Array Field:=match P.underlying t with
 | some (.struct fs)=>fs
 | _=>#[]
def PD (P:Program) (t:TypeId):TypeInfo:=(P.info? t).getD default
structure aEQ {P:Program} (T:SC P) (tB tI c1 c2 c3 c4 c5 c6:Nat) (o1 o2 o3 o4 o5 o6:Oper):Prop where
 h1:F4 o1 (.fieldAddr T.tR (.tmp tB) T.fR) (some c1)
 h2:F4 o2 (.load T.tS (.tmp c1)) (some c2)
 h3:F4 o3 (.move (.tmp tI)) (some c3)
 h4:F4 o4 (.indexAddr T.tS (.tmp c2) (.tmp c3)) (some c4)
 h5:F4 o5 (.fieldAddr T.tO (.tmp c4) T.fO) (some c5)
 h6:F4 o6 (.load T.tC (.tmp c5)) (some c6)
 n32:c3 ≠ c2
section
variable {P:Program} {nt:Nat} {w0:dO} {w wV:World} {h0 h:Hp} {fr:Nat->V} {bl:Nat->Option aH} {a:Act} {hd:Nat->Value}
theorem PL {ops:Array Oper} {Q:Exit->Act->World->Prop} {j1 j2 j3 j4 j5 j6:Nat} {rest:List Nat} {T:SC P} {tB tI c1 c2 c3 c4 c5 c6:Nat} {o1 o2 o3 o4 o5 o6:Oper} (hC:aEQ T tB tI c1 c2 c3 c4 c5 c6 o1 o2 o3 o4 o5 o6)
  (g1:ops[j1]? = some o1) (g2:ops[j2]? = some o2) (g3:ops[j3]? = some o3) (g4:ops[j4]? = some o4) (g5:ops[j5]? = some o5) (g6:ops[j6]? = some o6)
  {dead:List Nat} (hdead:∀ t ∈ [c1,c2,c3,c4,c5,c6],t ∈ dead ∧ t < nt) (hB:tB ∉ dead) (hI:tI ∉ dead) (hF:∀ t,w0.F t = none)
  {gB gZ bZ nZ cZ:Nat} {i:Int} {hx:Value} (hi:0 <= i) (hin:i.toNat < nZ) (vB:a.tmps.getD tB undef = .pointer (some ⟨gB,0,none⟩)) (vI:a.tmps.getD tI undef = .int .i64 i)
  (hcB:w.cell? ⟨gB,T.fdR.offset,none⟩ = some (.slice (some ⟨gZ,bZ,none⟩) nZ cZ)) (hcZ:w.cell? ⟨gZ,bZ + i.toNat * T.iO.size + T.fdO.offset,none⟩ = some hx)
  {fr0:Nat->V} (r:Rl nt w0 h0 fr bl a wV h hd) (hag:zT dead fr0 fr)
  (hK:∀ a' fr',Rl nt w0 h0 fr' bl a' wV h hd->zT dead fr0 fr'->a'.tmps.getD c6 undef = hx->(∀ t,t ∉ [c1,c2,c3,c4,c5,c6]->a'.tmps.getD t undef = a.tmps.getD t undef)->wpOps P ops Q rest a' w) :
  wpOps P ops Q (j1 :: j2 :: j3 :: j4 :: j5 :: j6 :: rest) a w:=by
 simp only [List.mem_cons,List.not_mem_nil,or_false,forall_eq_or_imp,forall_eq] at hdead
 obtain ⟨⟨p1,q1⟩,⟨p2,q2⟩,⟨p3,q3⟩,⟨p4,q4⟩,⟨p5,q5⟩,⟨p6,q6⟩⟩:=hdead
 have nB:∀ c,c ∈ dead->tB ≠ c:=fun c hc e=>hB (e ▸ hc)
 have nI:∀ c,c ∈ dead->tI ≠ c:=fun c hc e=>hI (e ▸ hc)
 refine n7 g1 hC.h1.1 hC.h1.2.2 r hF q1 (s:=Instr.fieldAt T.tR (a.eval (.tmp tB)) T.fR) (by simp [execOp,hC.h1.2.1]) (by rw [show a.eval (.tmp tB) = _ from vB]; exact GF T.h1.1 T.h1.2.1 T.h1.2.2.1 (by simpa using T.h1.2.2.2) gB 0) fun a1 r1 v1 o1'=>?_
 rw [Nat.zero_add] at v1
 refine n7 g2 hC.h2.1 hC.h2.2.2 r1 hF q2 (s:=Instr.loadAt T.tS (a1.eval (.tmp c1))) (by simp [execOp,hC.h2.2.1]) (by rw [show a1.eval (.tmp c1) = _ from v1]; exact S6 T.h2.1 T.h2.2.1 hcB) fun a2 r2 v2 o2'=>?_
 refine n7 g3 hC.h3.1 hC.h3.2.2 r2 hF q3 (s:=pure (a2.eval (.tmp tI))) (qW (.inr hC.h3.2.1)) (cv:=.int .i64 i) (by rw [show a2.eval (.tmp tI) = .int .i64 i from (o2' _ (nI _ p2)).trans ((o1' _ (nI _ p1)).trans vI)]; rfl) fun a3 r3 v3 o3'=>?_
 refine n7 g4 hC.h4.1 hC.h4.2.2 r3 hF q4 (s:=Instr.indexAt T.tS (a3.eval (.tmp c2)) (a3.eval (.tmp c3))) (by simp [execOp,hC.h4.2.1]) (by rw [show a3.eval (.tmp c2) = _ from (o3' _ (Ne.symm hC.n32)).trans v2,show a3.eval (.tmp c3) = _ from v3]; exact OH T.h2.2.2.1 T.h2.2.2.2 gZ bZ nZ cZ .i64 i hi hin) fun a4 r4 v4 o4'=>?_
 refine n7 g5 hC.h5.1 hC.h5.2.2 r4 hF q5 (s:=Instr.fieldAt T.tO (a4.eval (.tmp c4)) T.fO) (by simp [execOp,hC.h5.2.1]) (by rw [show a4.eval (.tmp c4) = _ from v4]; exact GF T.h3.1 T.h3.2.1 T.h3.2.2.1 (by simpa using T.h3.2.2.2) gZ _) fun a5 r5 v5 o5'=>?_
 refine n7 g6 hC.h6.1 hC.h6.2.2 r5 hF q6 (s:=Instr.loadAt T.tC (a5.eval (.tmp c5))) (by simp [execOp,hC.h6.2.1]) (by rw [show a5.eval (.tmp c5) = _ from v5]; exact S6 T.h4.1 T.h4.2.1 hcZ) fun a6 r6 v6 o6'=>?_
 refine hK a6 _ r6 ((((((hag.upd p1 _).upd p2 _).upd p3 _).upd p4 _).upd p5 _).upd p6 _) v6 fun t ht=>?_
 simp only [List.mem_cons,List.not_mem_nil,or_false,not_or] at ht
 rw [o6' t ht.2.2.2.2.2,o5' t ht.2.2.2.2.1,o4' t ht.2.2.2.1,o3' t ht.2.2.1,o2' t ht.2.1,o1' t ht.1]
end
def uG (o:Nat) (ds:List D) (j:Nat) (rows:List (List D)):List (List D):=rows.mapIdx fun i r=>if i < j then dP r o ds else r
theorem SO (o:Nat) (ds:List D) (j:Nat) (rows:List (List D)):(uG o ds j rows).length = rows.length:=by simp [uG]
theorem aAn (o:Nat) (ds:List D) (rows:List (List D)):uG o ds 0 rows = rows:=by
 unfold uG
 refine List.ext_getElem? fun i=>?_
 simp
theorem aBJ (o:Nat) (ds:List D) (rows:List (List D)):uG o ds rows.length rows = rows.map fun r=>dP r o ds:=by
 unfold uG
 refine List.ext_getElem? fun i=>?_
 rw [List.getElem?_mapIdx,List.getElem?_map]
 cases h:rows[i]? with
 | none=>rfl
 | some r=>simp [(List.getElem?_eq_some_iff.1 h).1]
theorem aBR {o:Nat} {ds:List D} {j:Nat} {rows:List (List D)} {r:List D} (h:rows[j]? = some r):(uG o ds j rows)[j]? = some r:=by
 simp [uG,h]
theorem Y6 {o:Nat} {ds:List D} {j:Nat} {rows:List (List D)} {r:List D} (h:rows[j]? = some r):(uG o ds j rows).set j (dP r o ds) = uG o ds (j + 1) rows:=by
 have hj:=(List.getElem?_eq_some_iff.1 h).1
 refine List.ext_getElem? fun i=>?_
 rw [List.getElem?_set]
 by_cases e:j = i
 ·subst e
  have hr:rows[j] = r:=(List.getElem?_eq_some_iff.1 h).2
  simp [uG,hj,hr]
 ·rw [if_neg e]
  simp only [uG,List.getElem?_mapIdx]
  cases rows[i]? with
  | none=>rfl
  | some r =>
   simp only [Option.map_some,Option.some.injEq]
   by_cases q:i < j
   ·rw [if_pos q,if_pos (by omega)]
   ·rw [if_neg q,if_neg (by omega)]
structure aJ8 {P:Program} (T:SC P) (L:KU) (o0 o1 o2 o3 o4 o5 o6 o7 o8 p1 p2 p3 p4 p5 p6 p7 p8 p9 p10 x1 x2 x3:Oper) (tI:TypeId) (yI:TypeId) (cW c1:Operand):Prop where
 h0:F4 o0 (.move (.tmp L.tK)) (some L.q0)
 h1:aEQ T L.tB L.tI L.c1 L.c2 L.c3 L.c4 L.c5 L.c6 o1 o2 o3 o4 o5 o6
 h7:o7.guard = none ∧ o7.dst = some L.ln ∧ ∀ ρ:Operand->Value,execOp ρ o7 = (do pure (.value (← Builtin.len_ #[T.tC] o7.type #[ρ (.tmp L.c6)])))
 h8:F4 o8 (.binOp .lss tI (.tmp L.q0) (.tmp L.ln) yI) (some L.ls)
 g1:aEQ T L.tB L.tI L.e1 L.e2 L.e3 L.e4 L.e5 L.e6 p1 p2 p3 p4 p5 p6
 g7:F4 p7 (.move (.tmp L.tK)) (some L.k2)
 g8:F4 p8 (.indexAddr T.tC (.tmp L.e6) (.tmp L.k2)) (some L.ix)
 g9:F4 p9 (.fieldAddr T.tE (.tmp L.ix) T.fE) (some L.fa)
 g10:F4 p10 (.store T.tW (.tmp L.fa) cW) none
 f1:F4 x1 (.move (.tmp L.tK)) (some L.u1)
 f2:F4 x2 (.binOp .add tI (.tmp L.u1) c1 yI) (some L.u2)
 f3:F4 x3 (.assign (.tmp L.u2)) (some L.tK)
 cW:∀ a:Act,a.eval cW = .bool false
 c1:∀ a:Act,a.eval c1 = .int .i64 1
section
variable {P:Program} {nt:Nat} {w0:dO} {h0 h:Hp} {bl0:Nat->Option aH} {hd:Nat->Value}
theorem aB3 {T:SC P} (L:KU) {dead:List Nat} (hdead:∀ t ∈ L.all,t ∈ dead ∧ t < nt) (hnd:L.Ok) (hB:L.tB ∉ dead) (hI:L.tI ∉ dead) (hF:∀ t,w0.F t = none)
  {b0 b1 r1 r2 r3:Nat} {o0 o1 o2 o3 o4 o5 o6 o7 o8 p1 p2 p3 p4 p5 p6 p7 p8 p9 p10 x1 x2 x3:Oper} {tI yI:TypeId} {cW cO:Operand} (hO:aJ8 T L o0 o1 o2 o3 o4 o5 o6 o7 o8 p1 p2 p3 p4 p5 p6 p7 p8 p9 p10 x1 x2 x3 tI yI cW cO)
  {X ver e:Nat} {rows:List (List D)} {fr0:Nat->V} {gB gZ bZ nZ capZ eZ:Nat} {oB:Obj} {curZ cZ:Array Value} {i:Int} {idB:Nat}
  (vB:fr0 L.tB = .ptr idB 0) (hidB:hd idB = .pointer (some ⟨gB,0,none⟩)) (vI:fr0 L.tI = .d (.int .i64 i)) (hi:0 <= i) (hin:i.toNat < nZ)
  (hBZ:gB ≠ gZ) (hXZ:∀ g,gD (hd X) = some g->g ≠ gZ ∧ g ≠ gB)
  (hoB:∀ w:World,w.heap[gB]? = some oB->w.cell? ⟨gB,T.fdR.offset,none⟩ = some (.slice (some ⟨gZ,bZ,none⟩) nZ capZ))
  (hcZ:cZ[bZ + i.toNat * T.iO.size + T.fdO.offset]? = some (hd X)) (hrl:∀ row ∈ rows,row.length = T.iE.size) (hoff:T.fdE.offset < T.iE.size)
  {Q:Exit->Act->World->Prop}
  (hQ:∀ a wV fr,Rl nt w0 h0 fr (bG bl0 [(X,some (.rows ver e T.iE.size (rows.map fun r=>dP r T.fdE.offset [.bool false])))]) a wV h hd->zT dead fr0 fr->wV.heap[gB]? = some oB->wV.heap[gZ]? = some (.cells curZ eZ (0,0))->a.tmps.getD L.tK undef = .int .i64 (rows.length:Int)->Q .normal a (wV.setRow gZ cZ)) :
  ∀ (j:Nat) (a:Act) (wV:World) (fr:Nat->V),j <= rows.length->Rl nt w0 h0 fr (bG bl0 [(X,some (.rows ver e T.iE.size (uG T.fdE.offset [.bool false] j rows)))]) a wV h hd->zT dead fr0 fr->wV.heap[gB]? = some oB->wV.heap[gZ]? = some (.cells curZ eZ (0,0))->a.tmps.getD L.tK undef = .int .i64 (j:Int) ->
  (Code.block b0 (.loop (.seq (.seq (.region r1 #[o0,o1,o2,o3,o4,o5,o6,o7,o8] false) (.cond (.tmp L.ls) .skip (.exit b0))) (.seq (.block b1 (.region r2 #[p1,p2,p3,p4,p5,p6,p7,p8,p9,p10] false)) (.region r3 #[x1,x2,x3] false))))).wp P Q a (wV.setRow gZ cZ):=by
 intro j a wV fr hj r hag hwB hwZ hk
 simp only [KU.all,List.mem_cons,List.not_mem_nil,or_false,forall_eq_or_imp,forall_eq] at hdead
 obtain ⟨⟨dK,lK⟩,⟨dq0,lq0⟩,d1,d2,d3,d4,d5,d6,⟨dln,lln⟩,⟨dls,lls⟩,d7,d8,d9,d10,d11,d12,⟨dk2,lk2⟩,⟨dix,lix⟩,⟨dfa,lfa⟩,⟨du1,lu1⟩,⟨du2,lu2⟩⟩:=hdead
 have hrowX:∀ {fr a wV j},Rl nt w0 h0 fr (bG bl0 [(X,some (.rows ver e T.iE.size (uG T.fdE.offset [.bool false] j rows)))]) a wV h hd->BR w0 wV h hd (bG bl0 [(X,some (.rows ver e T.iE.size (uG T.fdE.offset [.bool false] j rows)))]) X (.rows ver e T.iE.size (uG T.fdE.offset [.bool false] j rows)):=fun r=>r.blk X _ (jO ..)
 refine wp_block ?_
 refine QL (fun c a w=>∃ (j:Nat) (wV:World) (fr:Nat->V),rows.length - j < c ∧ j <= rows.length ∧ Rl nt w0 h0 fr (bG bl0 [(X,some (.rows ver e T.iE.size (uG T.fdE.offset [.bool false] j rows)))]) a wV h hd ∧ zT dead fr0 fr ∧ wV.heap[gB]? = some oB ∧ wV.heap[gZ]? = some (.cells curZ eZ (0,0)) ∧ a.tmps.getD L.tK undef = .int .i64 (j:Int) ∧ w = wV.setRow gZ cZ)
  (fun a w ⟨_,_,_,q,_⟩=>by omega) ?_ (rows.length - j + 1) a _ ⟨j,wV,fr,by omega,hj,r,hag,hwB,hwZ,hk,rfl⟩
 clear hk hwZ hwB hag r hj fr wV a j
 rintro c a w ⟨j,wV,fr,hc,hj,r,hag,hwB,hwZ,hk,rfl⟩
 have hcellB:∀ wV:World,wV.heap[gB]? = some oB->(wV.setRow gZ cZ).cell? ⟨gB,T.fdR.offset,none⟩ = some (.slice (some ⟨gZ,bZ,none⟩) nZ capZ):=fun wV q=>hoB _ ((setRow_other wV gZ gB cZ hBZ).trans q)
 have hcellZ:∀ wV:World,wV.heap[gZ]? = some (.cells curZ eZ (0,0))->(wV.setRow gZ cZ).cell? ⟨gZ,bZ + i.toNat * T.iO.size + T.fdO.offset,none⟩ = some (hd X):=fun wV q=>by
  simp only [World.cell?,setRow_heap wV gZ curZ cZ eZ _ q]
  exact hcZ
 have slotB:∀ {fr:Nat->V} {a:Act} {wV:World} {bl:Nat->Option aH},Rl nt w0 h0 fr bl a wV h hd->zT dead fr0 fr->a.tmps.getD L.tB undef = .pointer (some ⟨gB,0,none⟩):=fun {fr a wV bl} r hag=>by
  have:=r.frame L.tB
  rw [hag _ hB,vB] at this
  obtain ⟨_,g,q1,q2⟩:=GM this
  rw [hidB] at q1
  cases q1
  exact q2
 have slotI:∀ {fr:Nat->V} {a:Act} {wV:World} {bl:Nat->Option aH},Rl nt w0 h0 fr bl a wV h hd->zT dead fr0 fr->a.tmps.getD L.tI undef = .int .i64 i:=fun {fr a wV bl} r hag=>by
  have:=r.frame L.tI
  rw [hag _ hI,vI] at this
  exact lE this
 refine wp_seq (wp_seq (wp_region ?_))
 rw [show List.range (#[o0,o1,o2,o3,o4,o5,o6,o7,o8]:Array Oper).size = [0,1,2,3,4,5,6,7,8] from rfl]
 refine n7 (o:=o0) rfl hO.h0.1 hO.h0.2.2 r hF lq0 (s:=pure (a.eval (.tmp L.tK))) (qW (.inr hO.h0.2.1)) (cv:=.int .i64 (j:Int)) (by rw [show a.eval (.tmp L.tK) = _ from hk]; rfl) fun a1 ra va oa=>?_
 have hag1:=hag.upd dq0 .any
 refine PL hO.h1 rfl rfl rfl rfl rfl rfl (dead:=dead) (by simp only [List.mem_cons,List.not_mem_nil,or_false,forall_eq_or_imp,forall_eq]; exact ⟨d1,d2,d3,d4,d5,d6⟩) hB hI hF hi hin (slotB ra hag1) (slotI ra hag1) (hcellB _ hwB) (hcellZ _ hwZ) ra hag1 fun a2 fr2 rb hag2 vb ob=>?_
 obtain ⟨z1,z2,⟨xs,z3,z4⟩,z5⟩:=hrowX rb
 rw [SO] at z3
 have hlen:∀ (w:World) ty,(Builtin.len_ #[T.tC] ty #[hd X]).run P w = .ok (.int .i64 (rows.length:Int)) w:=fun w ty=>by
  rcases z3.2 with ⟨q1,q2⟩ | ⟨g,oo,cap,cur,q1,_⟩
  ·rw [q1,q2]; simp [Builtin.len_,run_underlying T.h4.2.2.1,goInt]
  ·rw [q1]; simp [Builtin.len_,run_underlying T.h4.2.2.1,goInt]
 refine n7 (o:=o7) rfl hO.h7.1 hO.h7.2.1 rb hF lln (hO.h7.2.2 _) (by rw [show a2.eval (.tmp L.c6) = hd X from vb]; exact hlen _ _) fun a3 rc vc oc=>?_
 have hq3:a3.tmps.getD L.q0 undef = .int .i64 (j:Int):=by
  rw [oc _ hnd.a2,ob _ hnd.a1]; exact va
 have hrun8:∃ cv,((do eqGuard .lss tI (.tmp L.q0) (.tmp L.ln) (a3.eval (.tmp L.q0)) (a3.eval (.tmp L.ln)); binOp .lss tI (a3.eval (.tmp L.q0)) (a3.eval (.tmp L.ln))):Sem Value).run P (wV.setRow gZ cZ) = .ok cv (wV.setRow gZ cZ) ∧ cv = .bool (decide (j < rows.length)):=by
  rw [show a3.eval (.tmp L.q0) = _ from hq3,show a3.eval (.tmp L.ln) = _ from vc]
  obtain ⟨cv,q1,q2,_⟩:=JW (P:=P) (w:=wV.setRow gZ cZ) (h:=h) (op:=.lss) (t:=tI) (x:=.tmp L.q0) (y:=.tmp L.ln) (k:=.i64) (m:=(j:Int)) (n:=(rows.length:Int)) (d:=.bool (decide ((j:Int) < rows.length))) rfl
  cases q2
  exact ⟨_,q1,by simp⟩
 obtain ⟨cv,hr8,rfl⟩:=hrun8
 refine n7 (o:=o8) rfl hO.h8.1 hO.h8.2.2 rc hF lls (s:=do eqGuard .lss tI (.tmp L.q0) (.tmp L.ln) (a3.eval (.tmp L.q0)) (a3.eval (.tmp L.ln)); binOp .lss tI (a3.eval (.tmp L.q0)) (a3.eval (.tmp L.ln))) (by simp [execOp,hO.h8.2.1]) hr8 fun a4 rd vd od=>?_
 have hag4:=(hag2.upd dln .any).upd dls .any
 have hk4:a4.tmps.getD L.tK undef = .int .i64 (j:Int):=by
  rw [od _ hnd.k1,oc _ hnd.k2,ob _ hnd.k3,oa _ hnd.k4]; exact hk
 show Exit.then _ _ .normal a4 _
 simp only [Exit.then]
 rcases Nat.lt_or_ge j rows.length with hjl | hjl
 ·refine wp_cond_true (by rw [show a4.eval (.tmp L.ls) = _ from vd]; simp [hjl]) (wp_skip ?_)
  simp only [Exit.then]
  refine wp_seq (wp_block (wp_region ?_))
  rw [show List.range (#[p1,p2,p3,p4,p5,p6,p7,p8,p9,p10]:Array Oper).size = [0,1,2,3,4,5,6,7,8,9] from rfl]
  refine PL hO.g1 rfl rfl rfl rfl rfl rfl (dead:=dead) (by simp only [List.mem_cons,List.not_mem_nil,or_false,forall_eq_or_imp,forall_eq]; exact ⟨d7,d8,d9,d10,d11,d12⟩) hB hI hF hi hin (slotB rd hag4) (slotI rd hag4) (hcellB _ hwB) (hcellZ _ hwZ) rd hag4 fun a5 fr5 re hag5 ve oe=>?_
  have hk5:a5.tmps.getD L.tK undef = .int .i64 (j:Int):=by
   rw [oe _ hnd.k5]; exact hk4
  refine n7 (o:=p7) rfl hO.g7.1 hO.g7.2.2 re hF lk2 (s:=pure (a5.eval (.tmp L.tK))) (qW (.inr hO.g7.2.1)) (cv:=.int .i64 (j:Int)) (by rw [show a5.eval (.tmp L.tK) = _ from hk5]; rfl) fun a6 rf vf of=>?_
  rcases z3.2 with ⟨q1,q2⟩ | ⟨gX,oo,cap,cur,q1,q3,q4,q5,q6,q7⟩
  ·omega
  have hgX:=hXZ gX (by rw [q1]; rfl)
  refine n7 (o:=p8) rfl hO.g8.1 hO.g8.2.2 rf hF lix (s:=Instr.indexAt T.tC (a6.eval (.tmp L.e6)) (a6.eval (.tmp L.k2))) (by simp [execOp,hO.g8.2.1]) (by rw [show a6.eval (.tmp L.e6) = _ from (of _ hnd.e6).trans (ve.trans q1),show a6.eval (.tmp L.k2) = _ from vf]; exact OH T.h4.2.2.1 T.h4.2.2.2 gX _ _ cap .i64 (j:Int) (by omega) (by simpa using hjl)) fun a7 rg vg og=>?_
  refine n7 (o:=p9) rfl hO.g9.1 hO.g9.2.2 rg hF lfa (s:=Instr.fieldAt T.tE (a7.eval (.tmp L.ix)) T.fE) (by simp [execOp,hO.g9.2.1]) (by rw [show a7.eval (.tmp L.ix) = _ from vg]; exact GF T.h5.1 T.h5.2.1 T.h5.2.2.1 (by simpa using T.h5.2.2.2) gX _) fun a8 rh vh oh=>?_
  have hag8:=((hag5.upd dk2 .any).upd dix .any).upd dfa .any
  have hk8:a8.tmps.getD L.tK undef = .int .i64 (j:Int):=by
   rw [oh _ hnd.k6,og _ hnd.k7,of _ hnd.k8]; exact hk5
  obtain ⟨row,hrow⟩ : ∃ row,rows[j]? = some row:=⟨_,List.getElem?_eq_getElem hjl⟩
  have hrow':=hrl row (List.mem_of_getElem? hrow)
  obtain ⟨w',s1,s2,s3⟩:=LR (P:=P) rh T.h6.1 (xv:=a8.tmps.getD L.fa undef) (vv:=.bool false) (id:=X) (ver:=ver) (ii:=j) (off:=T.fdE.offset) (by
    refine ⟨_,ver,jO ..,rfl,Nat.le_refl _,by rw [vh]; rfl,fun e' s' rows' eq=>?_⟩
    cases eq
    exact ⟨gX,_,_,cap,q1,by rw [vh]; simp [Nat.add_assoc]⟩) (jO ..) (aBR hrow) (ds:=[.bool false]) (fun q d hq=>by
    match q with
    | 0=>cases hq; exact ⟨rfl,.bool _,rfl⟩
    | q + 1=>cases hq) rfl (by rw [T.h6.2]; rfl) (by rw [T.h6.2,hrow']; omega) none (fun _ e=>by cases e) undef
  have hfit:oo * T.iE.size + (j:Int).toNat * T.iE.size + T.fdE.offset < cur.size:=by
   have h1:(oo + (j + 1)) * T.iE.size <= (oo + cap) * T.iE.size:=Nat.mul_le_mul_right _ (by omega)
   rw [Nat.add_mul,Nat.add_mul] at h1
   simp only [Int.toNat_natCast]
   omega
  have hsV:=EV (P:=P) (w:=wV) T.h6.1 T.h6.2 (u:=.bool false) q3 hfit rfl rfl
  have hsR:=EV (P:=P) (w:=wV.setRow gZ cZ) T.h6.1 T.h6.2 (u:=.bool false) ((setRow_other wV gZ gX cZ hgX.1).trans q3) hfit rfl rfl
  rw [vh] at s1
  rw [hsV] at s1
  cases s1
  rw [wpOps_cons]
  refine JR (o:=p10) rfl hO.g10.1 (CG (s:=Instr.storeAt T.tW (a8.eval (.tmp L.fa)) (a8.eval cW)) (by simp [execOp,hO.g10.2.1]) (by rw [show a8.eval (.tmp L.fa) = _ from vh,hO.cW a8]; exact hsR) ?_)
  rw [hO.g10.2.2,WD wV hgX.1.symm]
  have hst:bG (bG bl0 [(X,some (.rows ver e T.iE.size (uG T.fdE.offset [.bool false] j rows)))]) [(X,some (.rows ver e T.iE.size ((uG T.fdE.offset [.bool false] j rows).set j (dP row T.fdE.offset [.bool false]))))] = bG bl0 [(X,some (.rows ver e T.iE.size (uG T.fdE.offset [.bool false] (j + 1) rows)))]:=by
   rw [ZG,Y6 hrow]
  rw [hst] at s3
  generalize hwV' : wV.setRow gX (spl cur (oo * T.iE.size + (j:Int).toNat * T.iE.size + T.fdE.offset) (.bool false)) = wV' at s3 ⊢
  have hwB' : wV'.heap[gB]? = some oB:=by rw [← hwV']; exact (setRow_other wV gX gB _ hgX.2.symm).trans hwB
  have hwZ' : wV'.heap[gZ]? = some (.cells curZ eZ (0,0)):=by rw [← hwV']; exact (setRow_other wV gX gZ _ hgX.1.symm).trans hwZ
  have hk9:(a8.put none undef).tmps.getD L.tK undef = .int .i64 (j:Int):=hk8
  generalize a8.put none undef = a9 at s3 hk9 ⊢
  have hag9:zT dead fr0 (dJ (dJ (dJ (dJ fr5 (some L.k2) .any) (some L.ix) .any) (some L.fa) .any) none .any):=hag8
  generalize dJ (dJ (dJ (dJ fr5 (some L.k2) .any) (some L.ix) .any) (some L.fa) .any) none .any = fr9 at s3 hag9
  show Exit.inBlock b1 _ .normal a9 _
  simp only [Exit.inBlock,Exit.then]
  refine wp_region ?_
  rw [show List.range (#[x1,x2,x3]:Array Oper).size = [0,1,2] from rfl]
  refine n7 (o:=x1) rfl hO.f1.1 hO.f1.2.2 s3 hF lu1 (s:=pure (a9.eval (.tmp L.tK))) (qW (.inr hO.f1.2.1)) (cv:=.int .i64 (j:Int)) (by rw [show a9.eval (.tmp L.tK) = _ from hk9]; rfl) fun a10 ri vi oi=>?_
  have hml:rows.length <= 9223372036854775807:=by
   have:=z2; rw [SO] at this; exact this
  have hrunA:∃ cv,((do eqGuard .add tI (.tmp L.u1) cO (a10.eval (.tmp L.u1)) (a10.eval cO); binOp .add tI (a10.eval (.tmp L.u1)) (a10.eval cO)):Sem Value).run P (wV'.setRow gZ cZ) = .ok cv (wV'.setRow gZ cZ) ∧ cv = .int .i64 ((j + 1:Nat):Int):=by
   rw [show a10.eval (.tmp L.u1) = _ from vi,hO.c1 a10]
   obtain ⟨cv,q1,q2,_⟩:=JW (P:=P) (w:=wV'.setRow gZ cZ) (h:=h) (op:=.add) (t:=tI) (x:=.tmp L.u1) (y:=cO) (k:=.i64) (m:=(j:Int)) (n:=1) (d:=.int .i64 (IntKind.i64.wrap ((j:Int) + 1))) rfl
   cases q2
   refine ⟨_,q1,?_⟩
   simp [XO,IntKind.wrap,IntKind.bits,IntKind.signed]
   omega
  obtain ⟨cv,hrA,rfl⟩:=hrunA
  refine n7 (o:=x2) rfl hO.f2.1 hO.f2.2.2 ri hF lu2 (s:=do eqGuard .add tI (.tmp L.u1) cO (a10.eval (.tmp L.u1)) (a10.eval cO); binOp .add tI (a10.eval (.tmp L.u1)) (a10.eval cO)) (by simp [execOp,hO.f2.2.1]) hrA fun a11 rj vj oj=>?_
  refine n7 (o:=x3) rfl hO.f3.1 hO.f3.2.2 rj hF lK (s:=pure (a11.eval (.tmp L.u2))) (qW (.inl hO.f3.2.1)) (cv:=.int .i64 ((j + 1:Nat):Int)) (by rw [show a11.eval (.tmp L.u2) = _ from vj]; rfl) fun a12 rk vk ok=>?_
  show Exit.then _ _ .normal a12 _
  simp only [Exit.then]
  exact ⟨j + 1,wV',_,by omega,by omega,rk,((hag9.upd du1 _).upd du2 _).upd dK _,hwB',hwZ',vk,rfl⟩
 ·have hje:j = rows.length:=by omega
  refine wp_cond_false (by rw [show a4.eval (.tmp L.ls) = _ from vd]; simp [hjl]) (wp_exit ?_)
  simp only [Exit.then,Exit.inBlock,if_true]
  rw [hje,aBJ] at rd
  exact hQ a4 wV _ rd hag4 hwB hwZ (by rw [hk4,hje])
end
def JC {β:Type} (offR szO offO szE offE X vX Z vZ ii off:Nat) (n:Int) (bx bz bb:Option aH) (kk:List (Nat × Option aH)->Option β):Option β:=match bx,bz,bb with
 | some (.rows vX' eX szX rows),some (.rows vZ' _ szZ zr),some (.box cs)=>match cs[offR]? with
  | some (.own Z' vZ'')=>if (vX' = vX ∧ szX = szE ∧ sized szE rows = true) ∧ (vZ' = vZ ∧ szZ = szO ∧ ii < zr.length ∧ off = offO) ∧ (0 <= n ∧ n.toNat = ii) ∧ (Z' = Z ∧ vZ'' = vZ ∧ X ≠ Z) then
    kk [(X,some (.rows vX eX szX (rows.map fun r=>dP r offE [.bool false])))] else none
  | _=>none
 | _,_,_=>none
def JF {β:Type} (offR szO offO szE offE:Nat) (x p b i:V) (bl:List (Nat × Option aH)) (kk:List (Nat × Option aH)->Option β):Option β:=match x,p,b,i with
 | .own X vX,.orow Z vZ ii off,.ptr B 0,.d (.int .i64 n)=>JC offR szO offO szE offE X vX Z vZ ii off n (lk bl none X) (lk bl none Z) (lk bl none B) kk
 | _,_,_,_=>none
def N2 (tX tP tB tI offR szO offO szE offE:Nat) (dead:List Nat) (s:St):Option St:=JF offR szO offO szE offE (s.get tX) (s.get tP) (s.get tB) (s.get tI) s.bl fun wr=>some ⟨E4 dead s.fr,wr ++ s.bl⟩
section
variable {P:Program}
theorem aAI (hm:P.follows .mixedOrders = true) {nt:Nat} (T:SC P) (L:KU) {tX tP:Nat} {dead:List Nat} (hdead:∀ t ∈ L.all,t ∈ dead ∧ t < nt) (hnd:L.Ok) (hB:L.tB ∉ dead) (hI:L.tI ∉ dead) (hX:tX ∉ dead) (hP:tP ∉ dead)
  {offR szO offO szE offE:Nat} (nR:T.fdR.offset = offR) (nO:T.iO.size = szO) (nF:T.fdO.offset = offO) (nE:T.iE.size = szE) (nW:T.fdE.offset = offE) (hoff:offE < szE) (hoO:offO < szO)
  {rid r0 b0 b1 r1 r2 r3:Nat} {rops:Array Oper} {pre:List aM} {ps1:List (Nat × Nat)}
  (hlow:aJ (lA P nt rops) rops.toList = some (pre.map aM.bare ++ [⟨none,.store 1 (.t tP) (.t tX),none,0⟩])) (hok:AW rops.toList = true)
  (hloose:((FQ rops.toList).all fun p=>decide (p.1 < pre.length ∧ p.2 < pre.length) && ps1.contains p) = true)
  (hA:((List.range pre.length).all fun j=>((H8 rops.toList).getD pre.length 0).testBit j) = true)
  {oS oK:Oper} (hoS:rops[pre.length]? = some oS) (hS:F4 oS (.store T.tC (.tmp tP) (.tmp tX)) none) {cK:Operand} (hK:F4 oK (.assign cK) (some L.tK)) (hcK:∀ a:Act,a.eval cK = .int .i64 0) (hsz:T.iC.size = 1)
  {o0 o1 o2 o3 o4 o5 o6 o7 o8 p1 p2 p3 p4 p5 p6 p7 p8 p9 p10 x1 x2 x3:Oper} {tI yI:TypeId} {cW cO:Operand} (hO:aJ8 T L o0 o1 o2 o3 o4 o5 o6 o7 o8 p1 p2 p3 p4 p5 p6 p7 p8 p9 p10 x1 x2 x3 tI yI cW cO) :
  aD P nt (.seq (.region rid rops true) (.seq (.region r0 #[oK] false) (.block b0 (.loop (.seq (.seq (.region r1 #[o0,o1,o2,o3,o4,o5,o6,o7,o8] false) (.cond (.tmp L.ls) .skip (.exit b0))) (.seq (.block b1 (.region r2 #[p1,p2,p3,p4,p5,p6,p7,p8,p9,p10] false)) (.region r3 #[x1,x2,x3] false)))))))
   (.seq (.region pre (some ps1)) (.seq (.hand (N2 tX tP L.tB L.tI offR szO offO szE offE dead)) (.region [⟨none,.store 1 (.t tP) (.t tX),none,0⟩,⟨some L.tK,.len (.t tX),none,L.tK⟩] none))):=by
 subst nR nO nF nE nW
 intro C hC n w0 h0 s s' ex a w h hd Q hF he r hQ
 have hOF:O6 w0 rops:=fun _ _ d _=>hF d
 have hlen:rops.size = pre.length + 1:=by
  have:=(bF hlow).1
  simp only [List.length_append,List.length_map,List.length_singleton] at this
  have h2:rops.toList.length = rops.size:=rfl
  omega
 have hlow' : aJ (lA P nt rops) rops.toList = some ((pre ++ [(⟨none,.store 1 (.t tP) (.t tX),none,0⟩ : aM)]).map aM.bare):=by
  rw [hlow,List.map_append]
  rfl
 rw [bA] at he
 cases hr1:eH C pre (some ps1) s with
 | none=>simp only [bA,hr1] at he; cases he
 | some s1 =>
 have e1:bA C n (.region pre (some ps1)) s = some (.normal,s1):=by simp only [bA,hr1]
 rw [e1] at he
 simp only at he
 rw [bA] at he
 cases hg:N2 tX tP L.tB L.tI T.fdR.offset T.iO.size T.fdO.offset T.iE.size T.fdE.offset dead s1 with
 | none=>simp only [bA,hg] at he; cases he
 | some s2 =>
 have e2:bA C n (.hand (N2 tX tP L.tB L.tI T.fdR.offset T.iO.size T.fdO.offset T.iE.size T.fdE.offset dead)) s1 = some (.normal,s2):=by simp only [bA,hg]
 rw [e2] at he
 simp only [bA,eH,lG] at he
 cases hs3:uL C ⟨none,.store 1 (.t tP) (.t tX),none,0⟩ s2 with
 | none=>rw [hs3] at he; cases he
 | some s3 =>
 rw [hs3] at he
 simp only at he
 cases hs4:uL C ⟨some L.tK,.len (.t tX),none,L.tK⟩ s3 with
 | none=>rw [hs4] at he; cases he
 | some s4 =>
 rw [hs4] at he
 cases he
 unfold N2 JF at hg
 split at hg
 ·rename_i X vX Z vZ i off B ni gX gP gB' gI
  unfold JC at hg
  split at hg
  ·rename_i vX' eX szX rows vZ' eZ szZ zr cs bX bZ' bB
   split at hg
   ·rename_i Z' vZ'' hcs
    split at hg
    ·rename_i hcond
     obtain ⟨⟨rfl,rfl,hsized⟩,⟨rfl,rfl,hil,rfl⟩,⟨hn0,rfl⟩,⟨rfl,rfl,hXZ⟩⟩:=hcond
     cases hg
     simp only [List.singleton_append] at hs3
     replace bX:s1.blk X = _:=bX
     replace bZ' : s1.blk Z' = _:=bZ'
     replace bB:s1.blk B = _:=bB
     obtain ⟨p1',hp1,hi1⟩:=zR hr1
     let fp:Nat->Fp:=fun i=>p1'.getD i ([],[])
     have hst1:qS C (pre ++ [⟨none,.store 1 (.t tP) (.t tX),none,0⟩]) fp (List.range pre.length) s.fn s1.fn:=by
      have:=nN pre fp (k:=0) (fun i=>by simp) (fun i _=>by simp [fp]) hp1
      have e0:(List.range pre.length).map (0 + ·) = List.range pre.length:=by simp
      rw [e0] at this
      refine qS.wide (fun i hi=>?_) this
      have hi:=List.mem_range.1 hi
      exact ⟨by rw [List.getElem?_append_left hi],rfl⟩
     have hind:∀ p ∈ FQ rops.toList,Ind (pre ++ [⟨none,.store 1 (.t tP) (.t tX),none,0⟩]) fp p.1 p.2:=by
      intro p hp x y hx hy
      have:=List.all_eq_true.1 hloose p hp
      rw [Bool.and_eq_true,decide_eq_true_eq] at this
      obtain ⟨⟨g1,g2⟩,g3⟩:=this
      rw [List.getElem?_append_left g1] at hx
      rw [List.getElem?_append_left g2] at hy
      exact hi1 p (by simpa using g3) x y hx hy
     refine wp_seq (wp_region_any hm ?_)
     have key:=TH hC hOF hlow' hok fp hind (c:=pre.length) (B:=[]) (Q:=Exit.then ((Code.seq (.region r0 #[oK] false) (.block b0 (.loop (.seq (.seq (.region r1 #[o0,o1,o2,o3,o4,o5,o6,o7,o8] false) (.cond (.tmp L.ls) .skip (.exit b0))) (.seq (.block b1 (.region r2 #[p1,p2,p3,p4,p5,p6,p7,p8,p9,p10] false)) (.region r3 #[x1,x2,x3] false)))))).wp P Q) Q) (s1:=s1.fn)
      (fun j hj=>List.all_eq_true.1 hA j (List.mem_range.2 hj)) (fun k hk=>by cases hk) ?_
      pre.length (List.range pre.length) (Array.replicate rops.size false) s.fn a _ h hd (by simp) ?_ (by simp) ?_ ?_ r.drew hst1
     ·rw [show rops.size = pre.length + (0 + 1) from hlen]
      rw [hlen] at key
      exact key
     ·intro listed a1 w1 h1 hd1 hls hlf hlc r1
      have hready:Region.ready .any rops listed = []:=by
       cases hrd:Region.ready .any rops listed with
       | nil=>rfl
       | cons q l =>
        obtain ⟨z1,⟨o,z2⟩,_⟩:=M7 hok hlc (i:=q) (by rw [hrd]; simp)
        have:=(hlf q).2 ⟨(Array.getElem?_eq_some_iff.1 z2).1,z1⟩
        cases this
      replace r1:Rl nt w0 h0 s1.get s1.blk a1 w1 h1 hd1:=r1
      -- what stands where
      obtain ⟨y1,y2,⟨xsX,y3,y4⟩,y5⟩:=r1.blk X _ bX
      obtain ⟨z1,z2,⟨xsZ,z3,z4⟩,z5⟩:=r1.blk Z' _ bZ'
      obtain ⟨gB,arr,eB,b1',b2',b3',b4',b5',b6'⟩:=r1.blk B _ bB
      obtain ⟨gZ,oZ,capZ,curZ,k1,k2,k3,k4,k5,k6⟩ : ∃ g o cap cur,hd1 Z' = .slice (some ⟨g,o * T.iO.size,none⟩) zr.length cap ∧ w1.heap[g]? = some (.cells cur eZ (0,0)) ∧ zr.length <= cap ∧ cap <= maxLen ∧ (o + cap) * T.iO.size <= cur.size ∧ (cur.toList.drop (o * T.iO.size)).take (zr.length * T.iO.size) = xsZ:=by
       rcases z3.2 with ⟨q1,q2⟩ | q
       ·omega
       ·exact q
      have slX:∀ {fr:Nat->V} {bl:Nat->Option aH} {a:Act} {w:World} {rs:List (List D)},Rl nt w0 h0 fr bl a w h1 hd1->fr tX = .own X vX'->bl X = some (.rows vX' eX T.iE.size rs)->a.tmps.getD tX undef = hd1 X:=fun {fr bl a w rs} r gX bX=>by
       have:=r.frame tX
       rw [gX] at this
       obtain ⟨b,c,q1,q2,q3,q4,q5⟩ : ∃ b c,bl X = some b ∧ b.ver? = some c ∧ vX' <= c ∧ (a.tmps.getD tX undef).oneCell' = true ∧ (vX' = c->a.tmps.getD tX undef = hd1 X):=this
       rw [bX] at q1
       cases q1
       exact q5 (Option.some.inj q2)
      have hvX:=slX r1 gX bX
      have hXone:(hd1 X).oneCell' = true:=y3.one
      have hXc:(hd1 X).cells = #[hd1 X]:=by
       rcases y3.2 with ⟨q1,_⟩ | ⟨g,o,cap,cur,q1,_⟩ <;> rw [q1] <;> rfl
      have slP:∀ {fr:Nat->V} {bl:Nat->Option aH} {a:Act} {w:World},Rl nt w0 h0 fr bl a w h1 hd1->fr tP = .orow Z' vZ'' ni.toNat T.fdO.offset->bl Z' = some (.rows vZ'' eZ T.iO.size zr)->a.tmps.getD tP undef = .pointer (some ⟨gZ,oZ * T.iO.size + (ni.toNat * T.iO.size + T.fdO.offset),none⟩):=fun {fr bl a w} r gP bZ=>by
       have:=r.frame tP
       rw [gP] at this
       obtain ⟨b,c,q1,q2,q3,q4,q5⟩ : ∃ b c,bl Z' = some b ∧ b.ver? = some c ∧ vZ'' <= c ∧ (a.tmps.getD tP undef).oneCell' = true ∧ ∀ e size rows,b = .rows vZ'' e size rows->∃ g b n c,hd1 Z' = .slice (some ⟨g,b,none⟩) n c ∧ a.tmps.getD tP undef = .pointer (some ⟨g,b + (ni.toNat * size + T.fdO.offset),none⟩):=this
       rw [bZ] at q1
       cases q1
       obtain ⟨g,b,n,c,v1,v2⟩:=q5 _ _ _ rfl
       rw [k1] at v1
       cases v1
       exact v2
      have hvP:=slP r1 gP bZ'
      have hcellB:arr[T.fdR.offset]? = some (hd1 Z'):=by
       obtain ⟨q1,q2⟩:=b5' _ _ hcs
       obtain ⟨b,c,v1,v2,v3,v4,v5⟩ : ∃ b c,s1.blk Z' = some b ∧ b.ver? = some c ∧ vZ'' <= c ∧ (arr.getD T.fdR.offset undef).oneCell' = true ∧ (vZ'' = c->arr.getD T.fdR.offset undef = hd1 Z'):=q1
       rw [bZ'] at v1
       cases v1
       have hlt:T.fdR.offset < arr.size:=by rw [b4']; exact (List.getElem?_eq_some_iff.1 hcs).1
       have:=v5 (Option.some.inj v2)
       rw [← this]
       simp [hlt]
      have hfitZ:oZ * T.iO.size + (ni.toNat * T.iO.size + T.fdO.offset) < curZ.size:=by
       have h1:(oZ + (ni.toNat + 1)) * T.iO.size <= (oZ + capZ) * T.iO.size:=Nat.mul_le_mul_right _ (by omega)
       rw [Nat.add_mul,Nat.add_mul] at h1
       omega
      have hBZ:gB ≠ gZ:=fun e=>by
       have:=r1.sep B Z' _ _ gB bB bZ' rfl rfl (by rw [b1']; rfl) (by rw [k1,e]; rfl)
       subst this
       rw [bB] at bZ'
       cases bZ'
      have hXs:∀ g,gD (hd1 X) = some g->g ≠ gZ ∧ g ≠ gB:=fun g hg=>⟨fun e=>hXZ (r1.sep X Z' _ _ g bX bZ' rfl rfl hg (by rw [k1,e]; rfl)),fun e=>by
       have:=r1.sep X B _ _ g bX bB rfl rfl hg (by rw [b1',e]; rfl)
       subst this
       rw [bB] at bX
       cases bX⟩
      have hsR:=EV (P:=P) (w:=w1) T.h4.2.1 hsz (u:=hd1 X) k2 hfitZ hXc hXone
      refine JR hoS hS.1 (CG (s:=Instr.storeAt T.tC (a1.eval (.tmp tP)) (a1.eval (.tmp tX))) (by simp [execOp,hS.2.1]) (by rw [show a1.eval (.tmp tP) = _ from hvP,show a1.eval (.tmp tX) = _ from hvX]; exact hsR) ?_)
      rw [hS.2.2]
      refine ⟨hready,?_⟩
      show Code.wp P _ Q _ _
      refine wp_seq (wp_region ?_)
      rw [show List.range (#[oK]:Array Oper).size = [0] from rfl]
      have r1' : Rl nt w0 h0 s1.get (bG s1.blk [(X,some (.rows vX' eX T.iE.size (uG T.fdE.offset [.bool false] 0 rows)))]) (a1.put none undef) w1 h1 hd1:=by
       rw [aAn,aCm _ _ _ bX]
       exact r1
      have lK:=hdead L.tK (by simp [KU.all])
      refine n7 (o:=oK) rfl hK.1 hK.2.2 r1' hF lK.2 (s:=pure ((a1.put none undef).eval cK)) (qW (.inl hK.2.1)) (cv:=.int .i64 0) (by rw [hcK]; rfl) fun a2 r2 v2 o2=>?_
      show Exit.then _ _ .normal a2 _
      simp only [Exit.then]
      refine aB3 L hdead hnd hB hI hF hO (X:=X) (ver:=vX') (e:=eX) (rows:=rows) (fr0:=s1.get) (gB:=gB) (gZ:=gZ) (bZ:=oZ * T.iO.size) (nZ:=zr.length) (capZ:=capZ) (eZ:=eZ) (oB:=.cells arr eB (0,0)) (curZ:=curZ) (i:=ni) (idB:=B) gB' b1' gI hn0 hil hBZ hXs ?_ ?_ ?_ hoff ?_ 0 a2 w1 _ (Nat.zero_le _) r2 (zT.upd (fr:=s1.get) (fun _ _=>rfl) lK.1 _) b3' k2 v2
      ·intro w hw
       simp only [World.cell?,hw]
       rw [hcellB,k1]
       rfl
      ·rw [aJc _ _ _ hfitZ,if_pos (by omega)]
      ·intro row hrow
       exact (by simpa [sized] using List.all_eq_true.1 hsized row hrow)
      ·intro a3 wV fr3 r3 hag3 hwB hwZ hk3
       -- the state behind the hand
       have r3' : Rl nt w0 h0 (⟨E4 dead s1.fr,(X,some (.rows vX' eX T.iE.size (rows.map fun r=>dP r T.fdE.offset [.bool false]))) :: s1.bl⟩ : St).get (⟨E4 dead s1.fr,(X,some (.rows vX' eX T.iE.size (rows.map fun r=>dP r T.fdE.offset [.bool false]))) :: s1.bl⟩ : St).blk a3 wV h1 hd1:=by
        have hb:(⟨E4 dead s1.fr,(X,some (.rows vX' eX T.iE.size (rows.map fun r=>dP r T.fdE.offset [.bool false]))) :: s1.bl⟩ : St).blk = bG s1.blk [(X,some (.rows vX' eX T.iE.size (rows.map fun r=>dP r T.fdE.offset [.bool false])))]:=by
         funext q; rfl
        rw [hb]
        refine { r3 with frame:=fun t=>?_ }
        rw [MX]
        by_cases ht:t ∈ dead
        ·rw [if_pos ht]; trivial
        ·rw [if_neg ht,← hag3 t ht]; exact r3.frame t
       have t2:(⟨E4 dead s1.fr,(X,some (.rows vX' eX T.iE.size (rows.map fun r=>dP r T.fdE.offset [.bool false]))) :: s1.bl⟩ : St).get tX = .own X vX':=by rw [MX,if_neg hX]; exact gX
       have t3:(⟨E4 dead s1.fr,(X,some (.rows vX' eX T.iE.size (rows.map fun r=>dP r T.fdE.offset [.bool false]))) :: s1.bl⟩ : St).get tP = .orow Z' vZ'' ni.toNat T.fdO.offset:=by rw [MX,if_neg hP]; exact gP
       have t4:(⟨E4 dead s1.fr,(X,some (.rows vX' eX T.iE.size (rows.map fun r=>dP r T.fdE.offset [.bool false]))) :: s1.bl⟩ : St).blk X = some (.rows vX' eX T.iE.size (rows.map fun r=>dP r T.fdE.offset [.bool false])):=by
        show lk _ none X = _
        simp [lk]
       have t5:(⟨E4 dead s1.fr,(X,some (.rows vX' eX T.iE.size (rows.map fun r=>dP r T.fdE.offset [.bool false]))) :: s1.bl⟩ : St).blk Z' = some (.rows vZ'' eZ T.iO.size zr):=by
        show lk _ none Z' = _
        simp only [lk]
        rw [if_neg (Ne.symm hXZ)]
        exact bZ'
       generalize (⟨E4 dead s1.fr,(X,some (.rows vX' eX T.iE.size (rows.map fun r=>dP r T.fdE.offset [.bool false]))) :: s1.bl⟩ : St) = s2 at r3' hs3 t2 t3 t4 t5
       have hv3X:=slX r3' t2 t4
       have hv3P:=slP r3' t3 t5
       have hlS:uJ P oS = .store 1 (.t tP) (.t tX):=by
        obtain ⟨y,q1,q2⟩:=(bF hlow').2 pre.length oS (by simpa using hoS)
        have q3:y = ⟨none,.store 1 (.t tP) (.t tX),none,0⟩:=by
         rw [List.map_append,List.getElem?_append_right (by simp)] at q1
         simpa [aM.bare,gG.bare] using q1.symm
        subst q3
        unfold lA at q2
        rw [hS.1] at q2
        simp only at q2
        split at q2
        ·have:=congrArg (fun z=>z.map aM.op) q2
         simpa using this
        ·cases q2
       obtain ⟨v3,wr3,ha3,hp3⟩ : ∃ v wr,b7 C 0 (bH s2.get) s2.blk (.store 1 (.t tP) (.t tX)) = some (v,wr) ∧ s3 = s2.put none v wr:=by
        unfold uL at hs3
        simp only [show (⟨none,.store 1 (.t tP) (.t tX),none,0⟩ : aM).wants s2.get = .run from rfl] at hs3
        cases hh:b7 C 0 (bH s2.get) s2.blk (.store 1 (.t tP) (.t tX)) with
        | none=>rw [hh] at hs3; cases hs3
        | some p=>rw [hh] at hs3; cases hs3; exact ⟨_,_,rfl,rfl⟩
       have hw3:=aJ4 hC r3' oS (fun d e=>by rw [hS.2.2] at e; cases e) (site:=0) (by rw [hlS]; exact ha3) (K:=fun a' w'=>∃ h' hd',Rl nt w0 h0 s3.get s3.blk a' w' h' hd') (Q:=fun _ _ _=>False) (fun a' w' h' hd' q=>⟨h',hd',by
        rw [hp3,aEl]
        have:(s2.put none v3 wr3).get = dJ s2.get oS.dst v3:=by rw [hS.2.2]; rfl
        rw [this]
        exact q⟩)
       have he3:(execOp a3.eval oS).run P wV = .ok .skip (wV.setRow gZ (spl curZ (oZ * T.iO.size + (ni.toNat * T.iO.size + T.fdO.offset)) (hd1 X))):=by
        have q:=EV (P:=P) (w:=wV) T.h4.2.1 hsz (u:=hd1 X) hwZ hfitZ hXc hXone
        rw [← hv3P,← hv3X] at q
        rw [show execOp a3.eval oS = (do Instr.storeAt T.tC (a3.eval (.tmp tP)) (a3.eval (.tmp tX)); pure .skip) by simp [execOp,hS.2.1]]
        rw [Sem.run_bind,show a3.eval (.tmp tP) = a3.tmps.getD tP undef from rfl,show a3.eval (.tmp tX) = a3.tmps.getD tX undef from rfl,q]
        rw [hv3X]
        rfl
       unfold Oper.wp at hw3
       rw [he3] at hw3
       obtain ⟨h4,hd4,r4⟩ : ∃ h' hd',Rl nt w0 h0 s3.get s3.blk (a3.put oS.dst undef) (wV.setRow gZ (spl curZ (oZ * T.iO.size + (ni.toNat * T.iO.size + T.fdO.offset)) (hd1 X))) h' hd':=hw3
       rw [hS.2.2] at r4
       replace r4:Rl nt w0 h0 s3.get s3.blk a3 (wV.setRow gZ (spl curZ (oZ * T.iO.size + (ni.toNat * T.iO.size + T.fdO.offset)) (hd1 X))) h4 hd4:=r4
       obtain ⟨v4,wr4,ha4,hp4⟩ : ∃ v wr,b7 C L.tK (bH s3.get) s3.blk (.len (.t tX)) = some (v,wr) ∧ s' = s3.put (some L.tK) v wr:=by
        unfold uL at hs4
        simp only [show (⟨some L.tK,.len (.t tX),none,L.tK⟩ : aM).wants s3.get = .run from rfl] at hs4
        cases hh:b7 C L.tK (bH s3.get) s3.blk (.len (.t tX)) with
        | none=>rw [hh] at hs4; cases hs4
        | some p=>rw [hh] at hs4; cases hs4; exact ⟨_,_,rfl,rfl⟩
       obtain ⟨hwr,cv,c1,c2⟩:=aBb (P:=P) (ty:=0) r4 T.h4.2.2.1 (x:=.t tX) (r4.frame tX) ha4
       subst hwr
       have hcv:cv = .int .i64 (rows.length:Int):=by
        rw [hv3X] at c1
        rcases y3.2 with ⟨q1,q2⟩ | ⟨g,oo,cap,cur,q1,_⟩
        ·rw [q1] at c1
         simp [Builtin.len_,run_underlying T.h4.2.2.1,goInt] at c1
         rw [← c1,q2]; rfl
        ·rw [q1] at c1
         simp [Builtin.len_,run_underlying T.h4.2.2.1,goInt] at c1
         exact c1.symm
       subst hcv
       refine hQ a3 _ h4 hd4 ?_
       rw [hp4,aHT]
       refine { r4 with frame:=fun t=>?_ }
       unfold dJ
       by_cases ht:some L.tK = some t
       ·rw [if_pos ht]
        cases ht
        rw [hk3]
        exact c2
       ·rw [if_neg ht]; exact r4.frame t
     ·refine List.pairwise_append.2 ⟨List.pairwise_lt_range,List.pairwise_singleton _ _,fun x hx y hy=>?_⟩
      have:=List.mem_range.1 hx
      have:=List.mem_singleton.1 hy
      omega
     ·intro i
      have hrep:i < rops.size->(Array.replicate rops.size false).getD i true = false:=fun q=>by simp [q]
      simp only [List.mem_append,List.mem_range,List.mem_singleton]
      constructor
      ·intro q
       have:i < rops.size:=by rcases q with q | q <;> omega
       exact ⟨this,hrep this⟩
      ·rintro ⟨q,_⟩
       omega
     ·intro k hk
      exfalso
      simp only [Array.getD_eq_getD_getElem?,Array.getElem?_replicate] at hk
      split at hk <;> simp at hk
    ·cases hg
   ·cases hg
  ·cases hg
 ·cases hg
end
end Vm
end Go.Proofs.Ytjjcaapdaldedaa
namespace Go.Proofs.Ytjjcaapdaldedaa
namespace Vm
open Go.RowKit
section
variable {β:Type} {T:zS} {fr:List (Nat × V)} {bl:List (Nat × Option aH)}
theorem VJ {γ:Type} (offR szO offO szE offE:Nat) (x p b i:V) (kk:List (Nat × Option aH)->Option β) (g:β->Option γ):(JF offR szO offO szE offE x p b i bl kk).bind g = JF offR szO offO szE offE x p b i bl fun wr=>(kk wr).bind g:=by
 unfold JF
 cases x <;> try rfl
 rename_i X vX
 cases p <;> try rfl
 rename_i Z vZ ii off
 cases b <;> try rfl
 rename_i B o
 cases o <;> try rfl
 cases i <;> try rfl
 rename_i d
 cases d <;> try rfl
 rename_i k n
 cases k <;> try rfl
 show (JC offR szO offO szE offE X vX Z vZ ii off n (lk bl none X) (lk bl none Z) (lk bl none B) kk).bind g = JC offR szO offO szE offE X vX Z vZ ii off n (lk bl none X) (lk bl none Z) (lk bl none B) fun wr=>(kk wr).bind g
 unfold JC
 generalize lk bl none X = bx
 generalize lk bl none Z = bz
 generalize lk bl none B = bb
 rcases bx with _ | bx <;> try rfl
 cases bx <;> try rfl
 rcases bz with _ | bz <;> try rfl
 cases bz <;> try rfl
 rcases bb with _ | bb <;> try rfl
 cases bb <;> try rfl
 rename_i cs
 simp only
 generalize cs[offR]? = c
 rcases c with _ | c <;> try rfl
 cases c <;> try rfl
 simp only
 split <;> rfl
theorem U2 (tX tP tB tI offR szO offO szE offE:Nat) (dead:List Nat) (k:Ex->St->Option β):bP T (.hand (N2 tX tP tB tI offR szO offO szE offE dead)) ⟨fr,bl⟩ k = wD fr tX fun x=>wD fr tP fun p=>wD fr tB fun b=>wD fr tI fun i=>JF offR szO offO szE offE x p b i bl fun wr=>k .normal ⟨QT dead fr,wr ++ bl⟩:=by
 unfold bP
 rw [aHm]
 unfold N2 wD
 rw [← aIU,Option.map_eq_bind,Option.bind_assoc]
 exact VJ offR szO offO szE offE _ _ _ _ _ _
def O8 (X vX Z vZ:Nat) (n:Int) (szE offE eX:Nat) (rows zr:List (List D)) (v:V) (kk:List (Nat × Option aH)->Option β):Option β:=match v with
 | .own Z' vZ''=>if Z' = Z ∧ vZ'' = vZ ∧ X ≠ Z then (if sized szE rows = true then (if 0 <= n ∧ n.toNat < zr.length then kk [(X,some (.rows vX eX szE (rows.map fun r=>dP r offE [.bool false])))] else none) else none) else none
 | _=>none
def TY (X vX Z vZ:Nat) (n:Int) (offR szO szE offE:Nat) (bx bz bb:Option aH) (kk:List (Nat × Option aH)->Option β):Option β:=match bx,bz,bb with
 | some (.rows vX' eX szX rows),some (.rows vZ' _ szZ zr),some (.box cs)=>if (vX' = vX ∧ szX = szE) ∧ (vZ' = vZ ∧ szZ = szO) then AN cs offR fun v=>O8 X vX Z vZ n szE offE eX rows zr v kk else none
 | _,_,_=>none
theorem SF:∀ (cs:List V) (j:Nat) (k:V->Option β),AN cs j k = (cs[j]?).bind k
 | [],_,_=>rfl
 | c :: cs,0,k=>rfl
 | c :: cs,j + 1,k=>by
  rw [List.getElem?_cons_succ]
  exact SF cs j k
theorem aB0 (offR szO offO szE offE X vX Z vZ B:Nat) (n:Int) (kk:List (Nat × Option aH)->Option β):JF offR szO offO szE offE (.own X vX) (.orow Z vZ n.toNat offO) (.ptr B 0) (.d (.int .i64 n)) bl kk = cV bl X fun bx=>cV bl Z fun bz=>cV bl B fun bb=>TY X vX Z vZ n offR szO szE offE bx bz bb kk:=by
 show JC offR szO offO szE offE X vX Z vZ n.toNat offO n (lk bl none X) (lk bl none Z) (lk bl none B) kk = TY X vX Z vZ n offR szO szE offE (lk bl none X) (lk bl none Z) (lk bl none B) kk
 unfold JC TY
 generalize lk bl none X = bx
 generalize lk bl none Z = bz
 generalize lk bl none B = bb
 rcases bx with _ | bx <;> try rfl
 cases bx <;> try rfl
 rcases bz with _ | bz <;> try rfl
 cases bz <;> try rfl
 rcases bb with _ | bb <;> try rfl
 cases bb <;> try rfl
 ·rename_i vX' eX szX rows vZ' eZ szZ zr cs
  dsimp only
  rw [SF]
  cases cs[offR]? with
  | none=>simp
  | some v =>
   cases v with
   | own Z' vZ'' =>
    simp only [Option.bind_some,O8]
    by_cases h1:(vX' = vX ∧ szX = szE) ∧ (vZ' = vZ ∧ szZ = szO)
    ·obtain ⟨⟨rfl,rfl⟩,rfl,rfl⟩:=h1
     by_cases h2:Z' = Z ∧ vZ'' = vZ' ∧ X ≠ Z
     ·by_cases h3:sized szX rows = true
      ·by_cases h4:0 <= n ∧ n.toNat < zr.length
       ·rw [if_pos ⟨⟨rfl,rfl,h3⟩,⟨rfl,rfl,h4.2,(by trivial)⟩,⟨h4.1,(by trivial)⟩,h2⟩,if_pos ⟨⟨rfl,rfl⟩,rfl,rfl⟩,if_pos h2,if_pos h3,if_pos h4]
       ·rw [if_neg fun q=>h4 ⟨q.2.2.1.1,q.2.1.2.2.1⟩,if_pos ⟨⟨rfl,rfl⟩,rfl,rfl⟩,if_pos h2,if_pos h3,if_neg h4]
      ·rw [if_neg fun q=>h3 q.1.2.2,if_pos ⟨⟨rfl,rfl⟩,rfl,rfl⟩,if_pos h2,if_neg h3]
     ·rw [if_neg fun q=>h2 q.2.2.2,if_pos ⟨⟨rfl,rfl⟩,rfl,rfl⟩,if_neg h2]
    ·rw [if_neg fun q=>h1 ⟨⟨q.1.1,q.1.2.1⟩,q.2.1.1,q.2.1.2.1⟩,if_neg h1]
   | _=>simp [O8]
theorem aCP (X vX Z vZ:Nat) (n:Int) (offR szO szE offE eX eZ:Nat) (rows zr:List (List D)) (cs:List V) (kk:List (Nat × Option aH)->Option β):TY X vX Z vZ n offR szO szE offE (some (.rows vX eX szE rows)) (some (.rows vZ eZ szO zr)) (some (.box cs)) kk = AN cs offR fun v=>O8 X vX Z vZ n szE offE eX rows zr v kk:=if_pos ⟨⟨rfl,rfl⟩,rfl,rfl⟩
theorem aCH (X vX Z vZ:Nat) (n:Int) (szE offE eX:Nat) (rows zr:List (List D)) (kk:List (Nat × Option aH)->Option β) (h:(X == Z) = false):O8 X vX Z vZ n szE offE eX rows zr (.own Z vZ) kk = if sized szE rows = true then (if 0 <= n ∧ n.toNat < zr.length then kk [(X,some (.rows vX eX szE (rows.map fun r=>dP r offE [.bool false])))] else none) else none:=if_pos ⟨rfl,rfl,by simpa using h⟩
theorem aHw {α:Type} (c:α->List D) (g:List D->List D) (f:α->α) (h:∀ x,g (c x) = c (f x)) (xs:List α):(cM c xs).map g = cM c (xs.map f):=by
 simp only [cM,List.map_map]
 exact List.map_congr_left fun x _=>h x
end
end Vm
end Go.Proofs.Ytjjcaapdaldedaa
namespace Go.Proofs.Ytjjcaapdaldedaa
namespace Vm
open Go.RowKit
section
variable {β:Type} {T:zS} {d:Nat} {fr:List (Nat × V)} {bl:List (Nat × Option aH)} {k:V->Option β} {kw:V->List (Nat × Option aH)->Option β}
end
end Vm
end Go.Proofs.Ytjjcaapdaldedaa
