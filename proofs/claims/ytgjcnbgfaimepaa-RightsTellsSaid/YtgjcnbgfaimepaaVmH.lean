/- A map that is laid and ranged over, each entry written into a row of the call's own: in whatever order. The small machine, read from the front: a range over a map that is laid. A range over a map keyed by numbers, each round of which is code of the small machine: in whatever order. The small machine, read from the front: maps of bools keyed by numbers. The small machine, read from the front: maps of numbers keyed by numbers. The small machine, read from the front: pointers that may be nil, arrays of them. A slice is stored in a field of an element of a slice of one's own, and then one field of each of its elements is set through that field: the small machine sets the fields first, and stores then. Rules for the piece that sets a field of all elements of a slice that stands in a field of an element. 'slices.Sorted(maps.Keys(m))' as one piece: what it does to the state. -/
import Derived.Test.YtgjcnbgfaimepaaVmD
import Derived.Maps.RangeWalk
import Derived.WalkArith
import Derived.Test.YtgjcnbgfaimepaaVmF
import Derived.Laws.IdiomRangeMap
namespace Go.Proofs.Ytgjcnbgfaimepaa
section
namespace Vm
open Go.RowKit Go.Maps
section
variable {P:Program} {nt:Nat} {w0:c8} {w w' : World} {h0 h:Hp} {fr:Nat->V} {bl:Nat->Option aL} {a:Act} {hd:Nat->Value}
structure aHl (w0:c8) (h:Hp) (bl:Nat->Option aL) (hd:Nat->Value) (g:Nat):Prop where
 own:w0.own g
 out:h g = none
 off:∀ id b,bl id = some b->b.live = true->jH (hd id) ≠ some g
theorem aHl.new (r:Rl nt w0 h0 fr bl a w h hd) {g:Nat} (hg:w.heap.size <= g):aHl w0 h bl hd g where
 own:=.inl (ñ r.below.size hg)
 out:=XG r.hle hg
 off:=fun id b hb hl q=>by have:=((r.blk id b hb).num hl q).2.1; omega
theorem VT (r:Rl nt w0 h0 fr bl a w h hd) {d:Nat} (hd' : d < nt) (cv:Value) (t:Nat):(a.put (some d) cv).tmps.getD t undef = if d = t then cv else a.tmps.getD t undef:=by
 rw [P9 a (some d) cv t nt r.tmps fun x e=>by cases e; exact hd']
 simp only [Å]
theorem SN {ops:Array Oper} {Q:Exit->Act->World->Prop} {K:Act->World->Prop} {i:Nat} {o:Oper} (ho:ops[i]? = some o) (hg:o.guard = none) (h:o.wp P a w K Q):wpOp P ops Q i K a w:=by
 unfold wpOp
 rw [ho]
 simp only
 rw [Á (by simp [Region.wanted,hg])]
 exact .inl h
structure aQr where
 it:Nat
 nx:Nat
 ok:Nat
 en:Nat
 k1:Nat
 v1:Nat
 kk:Nat
 vv:Nat
 d1:Nat
 d2:Nat
 d3:Nat
 dc:Nat
 da:Nat
 out:Nat
def aQr.slots (L:aQr):List Nat:=[L.nx,L.ok,L.en,L.k1,L.v1,L.kk,L.vv,L.d1,L.d2,L.d3,L.dc,L.da]
theorem aNq (r:Rl nt w0 h0 fr bl a w h hd) (hF:∀ t,w0.F t = none) {d:Nat} (hd' : d < nt) (cv:Value) (v:V) (hv:R3 h hd bl cv v) :
  ∃ a',a.put (some d) cv = a' ∧ Rl nt w0 h0 (jP fr (some d) v) bl a' w h hd ∧ a'.tmps.getD d undef = cv ∧ ∀ t,t ≠ d->a'.tmps.getD t undef = a.tmps.getD t undef :=
 ⟨_,rfl,r.put0 (some d) cv v (fun x e=>by cases e; exact ⟨hd',hF d⟩) hv,by rw [VT r hd',Á rfl],fun t ht=>by rw [VT r hd',Ã (ĺ ht)]⟩
def AH (cell:V->Option (List D)) (s:St) (ks:List (Nat × Nat)) (i:Nat):Option (List D):=(ks.find? fun p=>p.1 == i).bind fun p=>cell (s.get p.2)
def aPY:Code->Code
 | .seq a _=>a
 | c=>c
def M1:Code->Code
 | .seq _ b=>b
 | c=>c
def T9:Code->Array Oper
 | .region _ ops _=>ops
 | _=>#[]
theorem aFW {P:Program} {e:TypeId} {z:Value} {s b:Nat} (h:(P.info? e).map (fun i=>(i.zero,i.size,i.bytes)) = some (some z,s,b)):∃ i,P.info? e = some i ∧ i.zero = some z ∧ i.size = s ∧ i.bytes = b:=by
 cases hi:P.info? e with
 | none=>rw [hi] at h; cases h
 | some i=>rw [hi] at h; simp only [ä,Å,Ĕ] at h; exact ⟨i,rfl,h.1,h.2.1,h.2.2⟩
def aOg {α:Type} (Q:α->Prop):List α->Prop
 | []=>True
 | x :: l=>Q x ∧ aOg Q l
theorem aOg.all {α:Type} {Q:α->Prop}:∀ {l:List α},aOg Q l->∀ x ∈ l,Q x
 | [],_,x,h=>by simp at h
 | y :: l,q,x,h=>by
  rcases Ô.1 h with rfl | h
  ·exact q.1
  ·exact aOg.all q.2 x h
end
end Vm
end
section
namespace Vm
open Go.RowKit
section
variable {β:Type} {T:CJ} {fr:List (Nat × V)} {bl:List (Nat × Option aL)}
def T6:List Nat->List (Nat × V)->List (Nat × V)
 | [],fr=>fr
 | t :: l,fr=>(t,.any) :: T6 l fr
theorem aA1:T6 [] fr = fr:=rfl
theorem X5 (t:Nat) (l:List Nat):T6 (t :: l) fr = (t,.any) :: T6 l fr:=rfl
end
end Vm
end
section
namespace Vm
open Go.RowKit Go.Maps
def c8.now (b:c8) (w:World) (rr it:Nat) (itv:Value):c8:={ w with L:=fun g=>b.own g ∧ g ≠ rr ∧ g < w.heap.size,F:=fun i=>if i = it then some itv else none,O:=b.O,M:=b.M }
section
variable {P:Program} {nt:Nat} {w0:c8} {w w' : World} {h0 h h' : Hp} {fr fr' : Nat->V} {bl bl' : Nat->Option aL} {a a' : Act} {hd hd' : Nat->Value} {rr it:Nat} {itv:Value}
theorem aBl {b:c8} (hs:b.heap.size <= w.heap.size) {g:Nat} (h:(b.now w rr it itv).own g):b.own g:=by
 rcases h with h | h
 ·exact .inl (ñ hs h)
 ·exact h.1
theorem aFp {b:c8} (hlt:rr < w.heap.size):¬ (b.now w rr it itv).own rr:=by
 rintro (h | h)
 ·exact absurd h (Nat.not_le_of_lt hlt)
 ·exact h.2.1 rfl
theorem BR.rebase {b0 b1:c8} {id:Nat} {b:aL} (hown:b.live = true->∀ g,jH (hd id) = some g->b0.own g) (hO:b0.O = b1.O) (r:BR b1 w h hd bl id b):BR b0 w h hd bl id b:=by
 cases b with
 | box cs =>
  obtain ⟨g,arr,e,h1,h2,h3⟩:=r
  exact ⟨g,arr,e,h1,hown rfl g (by rw [h1]; rfl),h3⟩
 | rows ver e size rows =>
  obtain ⟨h1,h2,h3,h4⟩:=r
  exact ⟨h1,h2,h3,fun g hg=>⟨(h4 g hg).1,hown rfl g hg⟩⟩
 | froz ver rows=>exact r
 | fbox cs=>exact r
 | mp ek m =>
  obtain ⟨g,h1,h2,h3⟩:=r
  exact ⟨g,h1,hown rfl g (by rw [h1]; rfl),h3⟩
 | fmp ek m=>exact r
 | outer cs =>
  intro j x hx
  rw [hO]
  exact r j x hx
theorem Rl.now (r:Rl nt w0 h0 fr bl a w h hd) (hS:aHl w0 h bl hd rr) (hit:a.tmps.getD it undef = itv):Rl nt (w0.now w rr it itv) h fr bl a w h hd where
 tmps:=r.tmps
 defers:=r.defers
 fixed:=fun t v e=>by
  simp only [c8.now] at e
  split at e
  ·rename_i q; cases e; rw [q]; exact hit
  ·cases e
 below:=GE.refl _ _
 hle:=r.hle
 h0le:=Hp.le.refl _
 hbase:=fun _ _=>rfl
 frame:=r.frame
 blk:=fun id b hb=>BR.rebase (b1:=w0) (fun hl g hg=>by
  obtain ⟨q1,q2,_⟩:=(r.blk id b hb).num hl hg
  exact .inr ⟨q1,fun e=>hS.off id b hb hl (e ▸ hg),q2⟩) rfl (r.blk id b hb)
 sep:=r.sep
theorem Rl.back (hF:∀ t,w0.F t = none) (r:Rl nt w0 h0 fr bl a w h hd) (r' : Rl nt (w0.now w rr it itv) h fr' bl' a' w' h' hd'):Rl nt w0 h0 fr' bl' a' w' h' hd' where
 tmps:=r'.tmps
 defers:=r'.defers
 fixed:=fun t v e=>by rw [hF t] at e; cases e
 below:=r.below.trans ⟨r'.below.os,r'.below.tape,r'.below.output,r'.below.size,fun k hk=>r'.below.block k fun q=>hk (aBl r.below.size q)⟩
 hle:=r'.hle
 h0le:=r.h0le.trans r'.h0le
 hbase:=fun b hb=>(r'.hbase b fun q=>hb (aBl r.below.size q)).trans (r.hbase b hb)
 frame:=r'.frame
 blk:=fun id b hb=>BR.rebase (b1:=w0.now w rr it itv) (fun hl g hg=>aBl r.below.size ((r'.blk id b hb).num hl hg).1) rfl (r'.blk id b hb)
 sep:=r'.sep
theorem aHl.back (hS:aHl w0 h bl hd rr) (hlt:rr < w.heap.size) (r' : Rl nt (w0.now w rr it itv) h fr' bl' a' w' h' hd'):aHl w0 h' bl' hd' rr ∧ w'.heap[rr]? = w.heap[rr]? :=
 ⟨⟨hS.own,(r'.hbase rr (aFp hlt)).trans hS.out,fun id b hb hl q=>aFp hlt ((r'.blk id b hb).num hl q).1⟩,r'.below.block rr (aFp hlt)⟩
structure aGr where
 it:Nat
 nx:Nat
 ok:Nat
 en:Nat
 k1:Nat
 kk:Nat
def aGr.slots (L:aGr):List Nat:=[L.nx,L.ok,L.en,L.k1,L.kk]
structure aVC (L:aGr) (oN oX e0 e1 e2:Oper):Prop where
 hN:oN.guard = none ∧ oN.op = .next (.tmp L.it) false ∧ oN.dst = some L.nx
 hX:oX.guard = none ∧ oX.op = .extract (.tmp L.nx) 0 ∧ oX.dst = some L.ok
 h0:e0.guard = none ∧ e0.op = .entry (.tmp L.it) ∧ e0.dst = some L.en
 h1:e1.guard = none ∧ e1.op = .extract (.tmp L.en) 0 ∧ e1.dst = some L.k1
 h2:e2.guard = none ∧ (e2.op = .assign (.tmp L.k1) ∨ e2.op = .move (.tmp L.k1)) ∧ e2.dst = some L.kk
def aR9 (l:List (Int × ML)) (k:Int):Bool:=l.any fun p=>decide (p.1 = k)
structure aVj (ek0:Nat) (C:Nat->List D->Option D) (n m:Nat) (L:aGr) (sc:aH) (s s2:St):Prop where
 ex:∃ (ek:Nat) (l:List (Int × ML)) (Inv:(Int->Bool)->(Nat->V)->(Nat->Option aL)->Prop),(frT m s).get m = .d (.mp ek l) ∧ (ek = ek0 ∨ ek = 2) ∧
  (∀ left fr bl fr',Inv left fr bl->(∀ t,t ∉ L.it :: L.slots->fr' t = fr t)->Inv left fr' bl) ∧
  (∀ left (s:St) (k:Int),aSz k->Inv left s.get s.blk->left k = true->s.get L.kk = .d (.int .i64 k)->∃ s',aR C n sc s = some (.normal,s') ∧ Inv (fun z=>left z && !decide (z = k)) s'.get s'.blk) ∧
  Inv (fun k=>aR9 l k) (frT m s).get (frT m s).blk ∧
  ∀ s' : St,Inv (fun _=>false) s'.get s'.blk->(∀ t,s2.get t = .any ∨ s2.get t = s'.get t) ∧ s2.blk = s'.blk
def RE (dead:List Nat) (fr:List (Nat × V)):List (Nat × V):=dead.map (fun t=>(t,V.any)) ++ fr
end
def aUF:Code->Code
 | .block _ c=>c
 | .loop c=>c
 | c=>c
section
variable {P:Program} {nt:Nat}
theorem bC.cond {co:Operand} {o:d7} {c d:Code} {x y:aH} (h0:qM co = some o) (h1:bC P nt c x) (h2:bC P nt d y):bC P nt (.cond co c d) (.cond o x y):=by
 intro C hC n w0 h0' s s' ex a w h hd Q hF he r hQ
 have hc:=eE r.frame h0
 simp only [aR] at he
 split at he
 ·rename_i hb
  rw [hb] at hc
  exact wp_cond_true (mZ hc) (h1 C hC n w0 h0' s s' ex a w h hd Q hF he r hQ)
 ·rename_i hb
  rw [hb] at hc
  exact Ş (mZ hc) (h2 C hC n w0 h0' s s' ex a w h hd Q hF he r hQ)
 ·cases he
theorem bC.block {id:Nat} {c:Code} {x:aH} (h1:bC P nt c x):bC P nt (.block id c) (.block id x):=by
 intro C hC n w0 h0 s s' ex a w h hd Q hF he r hQ
 refine wp_block ?_
 simp only [aR] at he
 split at he
 ·rename_i id'' s1 he1
  refine h1 C hC n w0 h0 s s1 (.exit id'') a w h hd _ hF he1 r fun a' w' h' hd' r'=>?_
  simp only [Ex.go,Exit.inBlock]
  split at he
  ·rename_i hid
   cases he
   rw [Á hid]
   exact hQ _ _ _ _ r'
  ·rename_i hid
   cases he
   rw [Ã hid]
   exact hQ _ _ _ _ r'
 ·rename_i hne
  refine h1 C hC n w0 h0 s s' ex a w h hd _ hF he r fun a' w' h' hd' r'=>?_
  cases ex with
  | normal=>exact hQ _ _ _ _ r'
  | exit id=>exact absurd he (hne _ _)
  | ret=>exact hQ _ _ _ _ r'
theorem bC.loop {c:Code} {x:aH} (h1:bC P nt c x):bC P nt (.loop c) (.loop x):=by
 intro C hC n w0 h0 s s' ex a w h hd Q hF he r hQ
 simp only [aR] at he
 refine ZR (fun k a w=>∃ s h hd,w7 (aR C n x) k s = some (ex,s') ∧ Rl nt w0 h0 s.get s.blk a w h hd) (fun a w ⟨s,h,hd,q,_⟩=>by simp [w7] at q) ?_ n a w ⟨s,h,hd,he,r⟩
 rintro k a w ⟨s,h,hd,q,r⟩
 simp only [w7] at q
 split at q
 ·rename_i s1 he1
  exact h1 C hC n w0 h0 s s1 .normal a w h hd _ hF he1 r fun a' w' h' hd' r'=>⟨s1,h',hd',q,r'⟩
 ·rename_i hne
  refine h1 C hC n w0 h0 s s' ex a w h hd _ hF q r fun a' w' h' hd' r'=>?_
  cases ex with
  | normal=>exact absurd q (hne _)
  | exit id=>exact hQ _ _ _ _ r'
  | ret=>exact hQ _ _ _ _ r'
end
end Vm
end
section
namespace Vm
open Go.RowKit
abbrev MB:=List (Int × Bool)
def mB (m:MB):List (Int × ML):=m.map fun p=>(p.1,ML.b p.2)
def eB:Option MB->D
 | none=>.mp 2 []
 | some m=>.mp 1 (mB m)
section
variable {β:Type} {T:CJ} {d:Nat} {fr:List (Nat × V)} {bl:List (Nat × Option aL)} {k:V->Option β} {kw:V->List (Nat × Option aL)->Option β}
section
variable (keep:List Nat)
end
theorem aBW (dead:List Nat) (fr:List (Nat × V)):RE dead fr = T6 dead fr:=by
 induction dead with
 | nil=>rfl
 | cons t l ih =>
  show (t,V.any) :: RE l fr = (t,V.any) :: T6 l fr
  rw [ih]
end
end Vm
end
section
namespace Vm
open Go.RowKit
abbrev MI:=List (Int × Int)
def mI (m:MI):List (Int × ML):=m.map fun p=>(p.1,ML.i p.2)
def eI:Option MI->D
 | none=>.mp 2 []
 | some m=>.mp 0 (mI m)
section
variable {β:Type} {T:CJ} {d:Nat} {fr:List (Nat × V)} {bl:List (Nat × Option aL)} {k:V->Option β} {kw:V->List (Nat × Option aL)->Option β}
end
end Vm
end
section
namespace Vm
open Go.RowKit
section
variable {β α:Type} {T:CJ} {d:Nat} {fr:List (Nat × V)} {bl:List (Nat × Option aL)} {k:V->Option β} {kw:V->List (Nat × Option aL)->Option β}
theorem aL7 (i:Nat) (l:List V):sV i ([] ++ l) = sV i l:=rfl
theorem aMF (i:Nat) (v:V) (l m:List V):sV i ((v :: l) ++ m) = sV i (v :: (l ++ m)):=rfl
end
end Vm
end
section
namespace Vm
open Go.RowKit
abbrev SZ (o:Oper) (op:Op) (d:Option Nat):Prop:=o.guard = none ∧ o.op = op ∧ o.dst = d
section
variable {P:Program} {w:World}
end
section
variable {P:Program} {nt:Nat} {w0:c8} {w wV:World} {h0 h:Hp} {fr:Nat->V} {bl:Nat->Option aL} {a:Act} {hd:Nat->Value}
end
structure aDl where
 tB:Nat
 tI:Nat
 tK:Nat
 q0:Nat
 c1:Nat
 c2:Nat
 c3:Nat
 c4:Nat
 c5:Nat
 c6:Nat
 ln:Nat
 ls:Nat
 e1:Nat
 e2:Nat
 e3:Nat
 e4:Nat
 e5:Nat
 e6:Nat
 k2:Nat
 ix:Nat
 fa:Nat
 u1:Nat
 u2:Nat
def aDl.all (L:aDl):List Nat:=[L.tK,L.q0,L.c1,L.c2,L.c3,L.c4,L.c5,L.c6,L.ln,L.ls,L.e1,L.e2,L.e3,L.e4,L.e5,L.e6,L.k2,L.ix,L.fa,L.u1,L.u2]
structure aDl.Ok (L:aDl):Prop where
 a1:L.q0 ∉ [L.c1,L.c2,L.c3,L.c4,L.c5,L.c6]
 a2:L.q0 ≠ L.ln
 k1:L.tK ≠ L.ls
 k2:L.tK ≠ L.ln
 k3:L.tK ∉ [L.c1,L.c2,L.c3,L.c4,L.c5,L.c6]
 k4:L.tK ≠ L.q0
 k5:L.tK ∉ [L.e1,L.e2,L.e3,L.e4,L.e5,L.e6]
 k6:L.tK ≠ L.fa
 k7:L.tK ≠ L.ix
 k8:L.tK ≠ L.k2
 e6:L.e6 ≠ L.k2
structure aQA (P:Program) where
 tR:TypeId
 fR:Nat
 tS:TypeId
 tO:TypeId
 fO:Nat
 tC:TypeId
 tE:TypeId
 fE:Nat
 tW:TypeId
 fsR:Array Field
 fdR:Field
 fsO:Array Field
 fdO:Field
 fsE:Array Field
 fdE:Field
 iS:TypeInfo
 iO:TypeInfo
 iC:TypeInfo
 iE:TypeInfo
 iW:TypeInfo
 h1:P.underlying tR = some (.struct fsR) ∧ fsR[fR]? = some fdR ∧ P.info? fdR.type = some iS ∧ (iS.size == 0) = false
 h2:u4 P tS = some false ∧ P.info? tS = some iS ∧ P.underlying tS = some (.slice tO) ∧ P.info? tO = some iO
 h3:P.underlying tO = some (.struct fsO) ∧ fsO[fO]? = some fdO ∧ P.info? fdO.type = some iC ∧ (iC.size == 0) = false
 h4:u4 P tC = some false ∧ P.info? tC = some iC ∧ P.underlying tC = some (.slice tE) ∧ P.info? tE = some iE
 h5:P.underlying tE = some (.struct fsE) ∧ fsE[fE]? = some fdE ∧ P.info? fdE.type = some iW ∧ (iW.size == 0) = false
 h6:P.info? tW = some iW ∧ iW.size = 1
structure aQv {P:Program} (T:aQA P) (tB tI c1 c2 c3 c4 c5 c6:Nat) (o1 o2 o3 o4 o5 o6:Oper):Prop where
 h1:SZ o1 (.fieldAddr T.tR (.tmp tB) T.fR) (some c1)
 h2:SZ o2 (.load T.tS (.tmp c1)) (some c2)
 h3:SZ o3 (.move (.tmp tI)) (some c3)
 h4:SZ o4 (.indexAddr T.tS (.tmp c2) (.tmp c3)) (some c4)
 h5:SZ o5 (.fieldAddr T.tO (.tmp c4) T.fO) (some c5)
 h6:SZ o6 (.load T.tC (.tmp c5)) (some c6)
 n32:c3 ≠ c2
section
variable {P:Program} {nt:Nat} {w0:c8} {w wV:World} {h0 h:Hp} {fr:Nat->V} {bl:Nat->Option aL} {a:Act} {hd:Nat->Value}
end
structure aVk {P:Program} (T:aQA P) (L:aDl) (o0 o1 o2 o3 o4 o5 o6 o7 o8 p1 p2 p3 p4 p5 p6 p7 p8 p9 p10 x1 x2 x3:Oper) (tI:TypeId) (yI:TypeId) (cW c1:Operand):Prop where
 h0:SZ o0 (.move (.tmp L.tK)) (some L.q0)
 h1:aQv T L.tB L.tI L.c1 L.c2 L.c3 L.c4 L.c5 L.c6 o1 o2 o3 o4 o5 o6
 h7:o7.guard = none ∧ o7.dst = some L.ln ∧ ∀ ρ:Operand->Value,execOp ρ o7 = (do pure (.value (← Builtin.len_ #[T.tC] o7.type #[ρ (.tmp L.c6)])))
 h8:SZ o8 (.binOp .lss tI (.tmp L.q0) (.tmp L.ln) yI) (some L.ls)
 g1:aQv T L.tB L.tI L.e1 L.e2 L.e3 L.e4 L.e5 L.e6 p1 p2 p3 p4 p5 p6
 g7:SZ p7 (.move (.tmp L.tK)) (some L.k2)
 g8:SZ p8 (.indexAddr T.tC (.tmp L.e6) (.tmp L.k2)) (some L.ix)
 g9:SZ p9 (.fieldAddr T.tE (.tmp L.ix) T.fE) (some L.fa)
 g10:SZ p10 (.store T.tW (.tmp L.fa) cW) none
 f1:SZ x1 (.move (.tmp L.tK)) (some L.u1)
 f2:SZ x2 (.binOp .add tI (.tmp L.u1) c1 yI) (some L.u2)
 f3:SZ x3 (.assign (.tmp L.u2)) (some L.tK)
 cW:∀ a:Act,a.eval cW = .bool false
 c1:∀ a:Act,a.eval c1 = .int .i64 1
section
variable {P:Program} {nt:Nat} {w0:c8} {h0 h:Hp} {bl0:Nat->Option aL} {hd:Nat->Value}
end
section
variable {P:Program}
end
end Vm
end
section
namespace Vm
open Go.RowKit
section
variable {β:Type} {T:CJ} {fr:List (Nat × V)} {bl:List (Nat × Option aL)}
end
end Vm
end
section
namespace Vm
open Go.RowKit
section
variable {β:Type} {T:CJ} {d:Nat} {fr:List (Nat × V)} {bl:List (Nat × Option aL)} {k:V->Option β} {kw:V->List (Nat × Option aL)->Option β}
end
end Vm
end
end Go.Proofs.Ytgjcnbgfaimepaa
