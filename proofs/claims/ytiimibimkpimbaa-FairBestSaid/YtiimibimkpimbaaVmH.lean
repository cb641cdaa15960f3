/- A map that is laid and ranged over, each entry written into a row of the call's own: in whatever order. The small machine, read from the front: a range over a map that is laid. A range over a map keyed by numbers, each round of which is code of the small machine: in whatever order. The small machine, read from the front: maps of bools keyed by numbers. The small machine, read from the front: maps of numbers keyed by numbers. 'slices.Sorted(maps.Keys(m))' as one piece: what it does to the state. -/
import Derived.Test.YtiimibimkpimbaaVmD
import Derived.Maps.RangeWalk
import Derived.WalkArith
import Derived.Test.YtiimibimkpimbaaVmF
import Derived.Laws.IdiomRangeMap
set_option linter.unusedVariables false
set_option linter.unusedSimpArgs false
namespace Go.Proofs.Ytiimibimkpimbaa
namespace Vm
open Go.RowKit Go.Maps
section
variable {P:Program} {nt:Nat} {w0:fF} {w w' : World} {h0 h:Hp} {fr:Nat→V} {bl:Nat→Option aS} {a:Act} {hd:Nat→Value}
structure ZU (w0:fF) (h:Hp) (bl:Nat→Option aS) (hd:Nat→Value) (g:Nat):Prop where
 own:w0.own g
 out:h g = none
 off:∀ id b,bl id = some b→b.live = true→gV (hd id) ≠ some g
theorem ZU.new (r:Rl nt w0 h0 fr bl a w h hd) {g:Nat} (hg:w.heap.size ≤ g):ZU w0 h bl hd g where
 own:=.inl (Nat.le_trans r.below.size hg)
 out:=D7 r.hle hg
 off:=fun id b hb hl q=>by have:=((r.blk id b hb).num hl q).2.1; omega
inductive aMI where
 | vm (so:bL)
 | ins (k t:Nat)
structure aIG where
 it:Nat
 nx:Nat
 ok:Nat
 en:Nat
 k1:Nat
 v1:Nat
 kk:Nat
 vv:Nat
 d1:Nat
 d2:Nat
 d3:Nat
 dc:Nat
 da:Nat
 out:Nat
def aIG.slots (L:aIG):List Nat:=[L.nx,L.ok,L.en,L.k1,L.v1,L.kk,L.vv,L.d1,L.d2,L.d3,L.dc,L.da]
def aGD {α:Type} (Q:α→Prop):List α→Prop
 | []=>True
 | x :: l=>Q x ∧ aGD Q l
theorem aGD.all {α:Type} {Q:α→Prop}:∀ {l:List α},aGD Q l→∀ x ∈ l,Q x
 | [],_,x,h=>by simp at h
 | y :: l,q,x,h=>by
  rcases List.mem_cons.1 h with rfl | h
  ·exact q.1
  ·exact aGD.all q.2 x h
end
end Vm
end Go.Proofs.Ytiimibimkpimbaa
set_option linter.unusedVariables false
set_option linter.unusedSimpArgs false
namespace Go.Proofs.Ytiimibimkpimbaa
namespace Vm
open Go.RowKit
section
variable {β:Type} {T:vT} {fr:List (Nat × V)} {bl:List (Nat × Option aS)}
end
end Vm
end Go.Proofs.Ytiimibimkpimbaa
set_option linter.unusedVariables false
set_option linter.unusedSimpArgs false
namespace Go.Proofs.Ytiimibimkpimbaa
namespace Vm
open Go.RowKit Go.Maps
def fF.now (b:fF) (w:World) (rr it:Nat) (itv:Value):fF:={ w with L:=fun g=>b.own g ∧ g ≠ rr ∧ g < w.heap.size,F:=fun i=>if i = it then some itv else none,O:=b.O }
section
variable {P:Program} {nt:Nat} {w0:fF} {w w' : World} {h0 h h' : Hp} {fr fr' : Nat→V} {bl bl' : Nat→Option aS} {a a' : Act} {hd hd' : Nat→Value} {rr it:Nat} {itv:Value}
theorem P1 {b:fF} (hs:b.heap.size ≤ w.heap.size) {g:Nat} (h:(b.now w rr it itv).own g):b.own g:=by
 rcases h with h | h
 ·exact .inl (Nat.le_trans hs h)
 ·exact h.1
theorem V4 {b:fF} (hlt:rr < w.heap.size):¬ (b.now w rr it itv).own rr:=by
 rintro (h | h)
 ·exact absurd h (Nat.not_le_of_lt hlt)
 ·exact h.2.1 rfl
theorem BR.rebase {b0 b1:fF} {id:Nat} {b:aS} (hown:b.live = true→∀ g,gV (hd id) = some g→b0.own g) (hO:b0.O = b1.O) (r:BR b1 w h hd bl id b):BR b0 w h hd bl id b:=by
 cases b with
 | box cs =>
  obtain ⟨g,arr,e,h1,h2,h3⟩:=r
  exact ⟨g,arr,e,h1,hown rfl g (by rw [h1]; rfl),h3⟩
 | rows ver e size rows =>
  obtain ⟨h1,h2,h3,h4⟩:=r
  exact ⟨h1,h2,h3,fun g hg=>⟨(h4 g hg).1,hown rfl g hg⟩⟩
 | froz ver rows=>exact r
 | fbox cs=>exact r
 | mp ek m =>
  obtain ⟨g,h1,h2,h3⟩:=r
  exact ⟨g,h1,hown rfl g (by rw [h1]; rfl),h3⟩
 | fmp ek m=>exact r
 | outer cs =>
  intro j x hx
  rw [hO]
  exact r j x hx
theorem Rl.now (r:Rl nt w0 h0 fr bl a w h hd) (hS:ZU w0 h bl hd rr) (hit:a.tmps.getD it undef = itv):Rl nt (w0.now w rr it itv) h fr bl a w h hd where
 tmps:=r.tmps
 defers:=r.defers
 fixed:=fun t v e=>by
  simp only [fF.now] at e
  split at e
  ·rename_i q; cases e; rw [q]; exact hit
  ·cases e
 below:=xO.refl _ _
 hle:=r.hle
 h0le:=Hp.le.refl _
 hbase:=fun _ _=>rfl
 frame:=r.frame
 blk:=fun id b hb=>BR.rebase (b1:=w0) (fun hl g hg=>by
  obtain ⟨q1,q2,_⟩:=(r.blk id b hb).num hl hg
  exact .inr ⟨q1,fun e=>hS.off id b hb hl (e ▸ hg),q2⟩) rfl (r.blk id b hb)
 sep:=r.sep
theorem Rl.back (hF:∀ t,w0.F t = none) (r:Rl nt w0 h0 fr bl a w h hd) (r' : Rl nt (w0.now w rr it itv) h fr' bl' a' w' h' hd'):Rl nt w0 h0 fr' bl' a' w' h' hd' where
 tmps:=r'.tmps
 defers:=r'.defers
 fixed:=fun t v e=>by rw [hF t] at e; cases e
 below:=r.below.trans ⟨r'.below.os,r'.below.tape,r'.below.output,r'.below.size,fun k hk=>r'.below.block k fun q=>hk (P1 r.below.size q)⟩
 hle:=r'.hle
 h0le:=r.h0le.trans r'.h0le
 hbase:=fun b hb=>(r'.hbase b fun q=>hb (P1 r.below.size q)).trans (r.hbase b hb)
 frame:=r'.frame
 blk:=fun id b hb=>BR.rebase (b1:=w0.now w rr it itv) (fun hl g hg=>P1 r.below.size ((r'.blk id b hb).num hl hg).1) rfl (r'.blk id b hb)
 sep:=r'.sep
theorem ZU.back (hS:ZU w0 h bl hd rr) (hlt:rr < w.heap.size) (r' : Rl nt (w0.now w rr it itv) h fr' bl' a' w' h' hd'):ZU w0 h' bl' hd' rr ∧ w'.heap[rr]? = w.heap[rr]? :=
 ⟨⟨hS.own,(r'.hbase rr (V4 hlt)).trans hS.out,fun id b hb hl q=>V4 hlt ((r'.blk id b hb).num hl q).1⟩,r'.below.block rr (V4 hlt)⟩
structure ZB where
 it:Nat
 nx:Nat
 ok:Nat
 en:Nat
 k1:Nat
 kk:Nat
def ZB.slots (L:ZB):List Nat:=[L.nx,L.ok,L.en,L.k1,L.kk]
structure aMM (L:ZB) (oN oX e0 e1 e2:Oper):Prop where
 hN:oN.guard = none ∧ oN.op = .next (.tmp L.it) false ∧ oN.dst = some L.nx
 hX:oX.guard = none ∧ oX.op = .extract (.tmp L.nx) 0 ∧ oX.dst = some L.ok
 h0:e0.guard = none ∧ e0.op = .entry (.tmp L.it) ∧ e0.dst = some L.en
 h1:e1.guard = none ∧ e1.op = .extract (.tmp L.en) 0 ∧ e1.dst = some L.k1
 h2:e2.guard = none ∧ (e2.op = .assign (.tmp L.k1) ∨ e2.op = .move (.tmp L.k1)) ∧ e2.dst = some L.kk
def aLB (l:List (Int × ML)) (k:Int):Bool:=l.any fun p=>decide (p.1 = k)
structure aMH (ek0:Nat) (C:Nat→List D→Option D) (n m:Nat) (L:ZB) (sc:aT) (s s2:St):Prop where
 ex:∃ (ek:Nat) (l:List (Int × ML)) (Inv:(Int→Bool)→(Nat→V)→(Nat→Option aS)→Prop),(frT m s).get m = .d (.mp ek l) ∧ (ek = ek0 ∨ ek = 2) ∧
  (∀ left fr bl fr',Inv left fr bl→(∀ t,t ∉ L.it :: L.slots→fr' t = fr t)→Inv left fr' bl) ∧
  (∀ left (s:St) (k:Int),dW k→Inv left s.get s.blk→left k = true→s.get L.kk = .d (.int .i64 k)→∃ s',b8 C n sc s = some (.normal,s') ∧ Inv (fun z=>left z && !decide (z = k)) s'.get s'.blk) ∧
  Inv (fun k=>aLB l k) (frT m s).get (frT m s).blk ∧
  ∀ s' : St,Inv (fun _=>false) s'.get s'.blk→(∀ t,s2.get t = .any ∨ s2.get t = s'.get t) ∧ s2.blk = s'.blk
end
section
variable {P:Program} {nt:Nat}
theorem aF.cond {co:Operand} {o:dH} {c d:Code} {x y:aT} (h0:iZ co = some o) (h1:aF P nt c x) (h2:aF P nt d y):aF P nt (.cond co c d) (.cond o x y):=by
 intro C hC n w0 h0' s s' ex a w h hd Q hF he r hQ
 have hc:=bY r.frame h0
 simp only [b8] at he
 split at he
 ·rename_i hb
  rw [hb] at hc
  exact wp_cond_true (pT hc) (h1 C hC n w0 h0' s s' ex a w h hd Q hF he r hQ)
 ·rename_i hb
  rw [hb] at hc
  exact wp_cond_false (pT hc) (h2 C hC n w0 h0' s s' ex a w h hd Q hF he r hQ)
 ·cases he
theorem aF.block {id:Nat} {c:Code} {x:aT} (h1:aF P nt c x):aF P nt (.block id c) (.block id x):=by
 intro C hC n w0 h0 s s' ex a w h hd Q hF he r hQ
 refine wp_block ?_
 simp only [b8] at he
 split at he
 ·rename_i id'' s1 he1
  refine h1 C hC n w0 h0 s s1 (.exit id'') a w h hd _ hF he1 r fun a' w' h' hd' r'=>?_
  simp only [Ex.go,Exit.inBlock]
  split at he
  ·rename_i hid
   cases he
   rw [if_pos hid]
   exact hQ _ _ _ _ r'
  ·rename_i hid
   cases he
   rw [if_neg hid]
   exact hQ _ _ _ _ r'
 ·rename_i hne
  refine h1 C hC n w0 h0 s s' ex a w h hd _ hF he r fun a' w' h' hd' r'=>?_
  cases ex with
  | normal=>exact hQ _ _ _ _ r'
  | exit id=>exact absurd he (hne _ _)
  | ret=>exact hQ _ _ _ _ r'
theorem aF.loop {c:Code} {x:aT} (h1:aF P nt c x):aF P nt (.loop c) (.loop x):=by
 intro C hC n w0 h0 s s' ex a w h hd Q hF he r hQ
 simp only [b8] at he
 refine T0 (fun k a w=>∃ s h hd,rS (b8 C n x) k s = some (ex,s') ∧ Rl nt w0 h0 s.get s.blk a w h hd) (fun a w ⟨s,h,hd,q,_⟩=>by simp [rS] at q) ?_ n a w ⟨s,h,hd,he,r⟩
 rintro k a w ⟨s,h,hd,q,r⟩
 simp only [rS] at q
 split at q
 ·rename_i s1 he1
  exact h1 C hC n w0 h0 s s1 .normal a w h hd _ hF he1 r fun a' w' h' hd' r'=>⟨s1,h',hd',q,r'⟩
 ·rename_i hne
  refine h1 C hC n w0 h0 s s' ex a w h hd _ hF q r fun a' w' h' hd' r'=>?_
  cases ex with
  | normal=>exact absurd q (hne _)
  | exit id=>exact hQ _ _ _ _ r'
  | ret=>exact hQ _ _ _ _ r'
end
end Vm
end Go.Proofs.Ytiimibimkpimbaa
set_option linter.unusedVariables false
set_option linter.unusedSimpArgs false
namespace Go.Proofs.Ytiimibimkpimbaa
namespace Vm
open Go.RowKit
abbrev MB:=List (Int × Bool)
def mB (m:MB):List (Int × ML):=m.map fun p=>(p.1,ML.b p.2)
theorem aDZ (k:Int) (b:Bool):∀ m:MB,rX k (ML.b b) (mB m) = mB (rX k b m)
 | []=>rfl
 | y :: r=>by
  show (if k < y.1 then _ else _) = mB (if k < y.1 then _ else _)
  split
  ·rfl
  ·show (y.1,ML.b y.2) :: rX k (.b b) (mB r) = (y.1,ML.b y.2) :: mB (rX k b r)
   rw [aDZ k b r]
theorem aJa (k:Int) (m:MB):vY k (mB m) = mB (vY k m):=by
 unfold vY mB
 rw [List.filter_map]
 rfl
theorem aI2 (k:Int) (b:Bool) (m:MB):fI k (ML.b b) (mB m) = mB (fI k b m):=by
 unfold fI
 rw [aJa,aDZ]
theorem aKi (k:Int) (z:Bool) (m:MB):fT k (ML.b z) (mB m) = .b (fT k z m):=by
 unfold fT mB
 rw [List.find?_map]
 have e:(fun p:Int × ML=>decide (p.1 = k)) ∘ (fun p:Int × Bool=>(p.1,ML.b p.2)) = fun p:Int × Bool=>decide (p.1 = k):=rfl
 rw [e]
 cases m.find? fun p=>decide (p.1 = k) <;> rfl
theorem aI1 (m:MB):(mB m).length = m.length:=List.length_map ..
section
variable {β:Type} {T:vT} {d:Nat} {fr:List (Nat × V)} {bl:List (Nat × Option aS)} {k:V→Option β} {kw:V→List (Nat × Option aS)→Option β}
theorem PE (ek:Nat):uE T d (.mkmap ek) fr bl k kw = dG bl d fun b=>iU b (kw (.mp d) [(d,some (.mp ek []))]):=by
 unfold uE dG
 simp only [eG]
 cases lk bl none d <;> rfl
def aFl (ek:Nat) (m a x:V) (bl:List (Nat × Option aS)) (k:V→Option β) (kw:V→List (Nat × Option aS)→Option β):Option β:=AR (match m,GN a,aAK x with
  | .mp id,some n,some x=>match lk bl none id with
   | some (.mp ek' l)=>if x.kind = ek ∧ ek' = ek ∧ l.length < 1000000000000 then some (.any,[(id,some (.mp ek (fI n x l)))]) else none
   | _=>none
  | _,_,_=>none) k kw
theorem aCJ (ek:Nat) (m a x:dH):uE T d (.mput ek m a x) fr bl k kw = dV fr m fun mv=>dV fr a fun av=>dV fr x fun xv=>aFl ek mv av xv bl k kw:=by
 rw [kU]
 rfl
def I2 (z:ML) (m a:V) (bl:List (Nat × Option aS)) (k:V→Option β):Option β:=match NR (lk bl none) m,GN a with
 | some (ek,l),some n=>if l.isEmpty = true ∨ z.kind = ek then k (.d (fT n z l).d) else none
 | _,_=>none
theorem aEx (z:ML) (m a:dH):uE T d (.mget z m a) fr bl k kw = dV fr m fun mv=>dV fr a fun av=>I2 z mv av bl k:=by
 unfold uE dV I2
 simp only [eG]
 cases NR (lk bl none) (cR (lk fr .any) m) with
 | none=>rfl
 | some p =>
  cases GN (cR (lk fr .any) a) with
  | none=>rfl
  | some n =>
   obtain ⟨ek,l⟩:=p
   simp only
   by_cases h:l.isEmpty = true ∨ z.kind = ek
   ·rw [if_pos h,if_pos h]
   ·rw [if_neg h,if_neg h]
def d1M (id:Nat) (b:Option aS) (k:D→List (Nat × Option aS)→Option β):Option β:=match b with
 | some (.mp ek m)=>k (.mp ek m) [(id,some (.fmp ek m))]
 | some (.fmp ek m)=>k (.mp ek m) []
 | _=>none
theorem aIT (id ek:Nat) (m:List (Int × ML)) (k:D→List (Nat × Option aS)→Option β):d1M id (some (.mp ek m)) k = k (.mp ek m) [(id,some (.fmp ek m))]:=rfl
theorem aJe (id:Nat) (k:D→List (Nat × Option aS)→Option β):d1K (.mp id) bl k = dG bl id fun b=>d1M id b k:=by
 unfold d1K dG d1M
 simp only [mG,DD,sY,D9]
 generalize lk bl none id = b
 cases b with
 | none=>rfl
 | some b=>cases b <;> rfl
def tG:List V→Option β→Option β
 | [],y=>y
 | v :: l,y=>if v.noTup = true then tG l y else none
theorem OB (y:Option β):∀ l:List V,tG l y = if l.all V.noTup = true then y else none
 | []=>rfl
 | v :: l=>by
  by_cases h:v.noTup = true
  ·simp [tG,h,OB y l]
  ·simp [tG,h]
theorem aHv (dst:Option Nat) (slots:List Nat) (cs:List V) (v u:V) (l:List V) (k:List (Nat × V)→Option β):O0 dst slots cs (v :: u :: l) k = tG (v :: u :: l) (k (JW dst (.tup (v :: u :: l)) ++ slots.zip cs)):=by
 rw [M2,OB]
theorem XD (y:Option β):tG [] y = y:=rfl
theorem aCz (x:D) (l:List V) (y:Option β):tG (.d x :: l) y = tG l y:=rfl
theorem XB (i v:Nat) (l:List V) (y:Option β):tG (.own i v :: l) y = tG l y:=rfl
theorem WE (i v:Nat) (l:List V) (y:Option β):tG (.ptr i v :: l) y = tG l y:=rfl
theorem aDJ (l:List V) (y:Option β):tG (.nil :: l) y = tG l y:=rfl
section
variable (keep:List Nat)
def XE (id:Nat) (b:Option aS) (k:V→Option β):Option β:=match b with
 | some (.mp _ _)=>kR keep id (k (.mp id)) (k .any)
 | some (.fmp ek m)=>k (.d (.mp ek m))
 | _=>k .any
theorem aEV (id:Nat):wH keep bl (.mp id) k = dG bl id fun b=>XE keep id b k:=by
 unfold wH dG XE kR
 simp only [E8,N2,s9]
 generalize lk bl none id = b
 cases b with
 | none=>rfl
 | some b=>cases b <;> first | rfl | (simp only; cases h:keep.contains id <;> simp)
theorem aA2 (id ek:Nat) (m:List (Int × ML)):XE keep id (some (.mp ek m)) k = kR keep id (k (.mp id)) (k .any):=rfl
theorem aAv (id:Nat) (cs:List V) (k:List V→Option β):xL keep bl (.mp id :: cs) k = wH keep bl (.mp id) fun v=>xL keep bl cs fun l=>k (v :: l):=by simp only [AA]; rfl
theorem aAW (ek:Nat) (m:List (Int × ML)) (k:Option aS→Option β):BA keep bl (some (.mp ek m)) k = k (some (.mp ek m)):=rfl
end
theorem aHx (i:Nat) (k:List Nat→Option β):DI (.mp i) k = k [i]:=rfl
end
end Vm
end Go.Proofs.Ytiimibimkpimbaa
set_option linter.unusedVariables false
set_option linter.unusedSimpArgs false
namespace Go.Proofs.Ytiimibimkpimbaa
namespace Vm
open Go.RowKit
abbrev MI:=List (Int × Int)
def mI (m:MI):List (Int × ML):=m.map fun p=>(p.1,ML.i p.2)
def eI:Option MI→D
 | none=>.mp 2 []
 | some m=>.mp 0 (mI m)
def SY (k:Int) (z:Int):Option MI→Int
 | none=>z
 | some m=>fT k z m
theorem aE1 (k:Int) (b:Int):∀ m:MI,rX k (ML.i b) (mI m) = mI (rX k b m)
 | []=>rfl
 | y :: r=>by
  show (if k < y.1 then _ else _) = mI (if k < y.1 then _ else _)
  split
  ·rfl
  ·show (y.1,ML.i y.2) :: rX k (.i b) (mI r) = (y.1,ML.i y.2) :: mI (rX k b r)
   rw [aE1 k b r]
theorem aIS (k:Int) (m:MI):vY k (mI m) = mI (vY k m):=by
 unfold vY mI
 rw [List.filter_map]
 rfl
theorem aJL (k:Int) (b:Int) (m:MI):fI k (ML.i b) (mI m) = mI (fI k b m):=by
 unfold fI
 rw [aIS,aE1]
theorem aDA (k:Int) (z:Int) (m:MI):fT k (ML.i z) (mI m) = .i (fT k z m):=by
 unfold fT mI
 rw [List.find?_map]
 have e:(fun p:Int × ML=>decide (p.1 = k)) ∘ (fun p:Int × Int=>(p.1,ML.i p.2)) = fun p:Int × Int=>decide (p.1 = k):=rfl
 rw [e]
 cases m.find? fun p=>decide (p.1 = k) <;> rfl
theorem aI5 (m:MI):(mI m).length = m.length:=List.length_map ..
section
variable {β:Type} {T:vT} {d:Nat} {fr:List (Nat × V)} {bl:List (Nat × Option aS)} {k:V→Option β} {kw:V→List (Nat × Option aS)→Option β}
theorem XY:uE T d (.mkmap 0) fr bl k kw = dG bl d fun b=>iU b (kw (.mp d) [(d,some (.mp 0 (mI [])))]):=PE 0
def QE (n:Int) (b:Int) (id:Nat) (y:Option aS) (kw:V→List (Nat × Option aS)→Option β):Option β:=match y with
 | some (.mp 0 l)=>if l.length < 1000000000000 then kw .any [(id,some (.mp 0 (fI n (.i b) l)))] else none
 | _=>none
theorem WH (id:Nat) (n b:Int):aFl 0 (.mp id) (.d (.int .i64 n)) (.d (.int .i64 b)) bl k kw = if dW n then (if dW b then dG bl id fun y=>QE n b id y kw else none) else none:=by
 unfold aFl
 simp only [GN,aAK]
 by_cases h:dW n
 ·rw [if_pos h,if_pos h]
  by_cases h2:dW b
  ·rw [if_pos h2,if_pos h2]
   unfold dG
   simp only
   cases lk bl none id with
   | none=>rfl
   | some y =>
    cases y with
    | mp ek l =>
     simp only [ML.kind,true_and]
     by_cases e:ek = 0
     ·subst e
      simp only [true_and,QE]
      split <;> rfl
     ·rw [if_neg (fun q=>e q.1)]
      match ek,e with
      | 0,e=>exact absurd rfl e
      | _ + 1,_=>rfl
    | _=>rfl
  ·rw [if_neg h2,if_neg h2]
   rfl
 ·rw [if_neg h,if_neg h]
  rfl
theorem Z7 (n b:Int) (id:Nat) (m:MI):QE n b id (some (.mp 0 (mI m))) kw = if m.length < 1000000000000 then kw .any [(id,some (.mp 0 (mI (fI n b m))))] else none:=by
 unfold QE
 simp only [aI5,aJL]
def aCq (z:Int) (n:Int) (y:Option aS) (k:V→Option β):Option β:=match y with
 | some (.mp ek l)=>if l.isEmpty = true ∨ 0 = ek then k (.d (fT n (.i z) l).d) else none
 | some (.fmp ek l)=>if l.isEmpty = true ∨ 0 = ek then k (.d (fT n (.i z) l).d) else none
 | _=>none
theorem U8 (z:Int) (id:Nat) (n:Int):I2 (.i z) (.mp id) (.d (.int .i64 n)) bl k = if dW n then dG bl id fun y=>aCq z n y k else none:=by
 unfold I2
 simp only [GN,NR]
 by_cases h:dW n
 ·rw [if_pos h,if_pos h]
  unfold dG
  cases lk bl none id with
  | none=>rfl
  | some y=>cases y <;> rfl
 ·rw [if_neg h,if_neg h]
  cases lk bl none id with
  | none=>rfl
  | some y=>cases y <;> rfl
theorem aBU (z:Int) (n:Int) (m:MI):aCq z n (some (.mp 0 (mI m))) k = k (.d (.int .i64 (fT n z m))):=by
 show (if (mI m).isEmpty = true ∨ (0:Nat) = 0 then k (.d (fT n (.i z) (mI m)).d) else none) = _
 rw [if_pos (.inr rfl),aDA]
 rfl
theorem SP (z:Int) (n:Int) (m:MI):I2 (.i z) (.d (.mp 0 (mI m))) (.d (.int .i64 n)) bl k = if dW n then k (.d (.int .i64 (fT n z m))) else none:=by
 unfold I2
 simp only [GN,NR]
 by_cases h:dW n
 ·rw [if_pos h,if_pos h]
  show (if (mI m).isEmpty = true ∨ (0:Nat) = 0 then k (.d (fT n (.i z) (mI m)).d) else none) = _
  rw [if_pos (.inr rfl),aDA]
  rfl
 ·rw [if_neg h,if_neg h]
theorem aCr (z:Int) (n:Int) (x:Option MI):I2 (.i z) (.d (eI x)) (.d (.int .i64 n)) bl k = if dW n then k (.d (.int .i64 (SY n z x))) else none:=by
 cases x with
 | none =>
  unfold I2
  simp only [GN,NR,eI]
  by_cases h:dW n
  ·rw [if_pos h,if_pos h]; rfl
  ·rw [if_neg h,if_neg h]
 | some m=>exact SP z n m
theorem ZK (op:jC) (m:dH) (k:List Nat→Option β) (h1:op.new = false) (h2:op.peeks = [m]) (h3:op.deeps = []):HU d op fr bl k = dV fr m fun v=>DI v k:=by
 unfold HU dV DI
 rw [h1,h2,h3]
 simp
theorem aEc (z:ML) (m a:dH) (k:List Nat→Option β):HU d (.mget z m a) fr bl k = dV fr m fun v=>DI v k:=ZK _ _ _ rfl rfl rfl
theorem aCu (e:Nat) (m a x:dH) (k:List Nat→Option β):HU d (.mput e m a x) fr bl k = dV fr m fun v=>DI v k:=ZK _ _ _ rfl rfl rfl
theorem WW (off id i:Nat) (c:V) (cs:List V):oT 1 off id (.mp i) (some (.box (c :: cs))) kw = FA (c :: cs) off (.mp i) fun l=>kw .any [(id,some (.box l))]:=II off id _ c cs rfl rfl
theorem aBF (id:Nat) (cs:List V) (kk:List D→List (Nat × Option aS)→Option β):rL bl (.mp id :: cs) kk = d1K (.mp id) bl fun x g=>rL bl cs fun ds f=>kk (x :: ds) (g ++ f):=rfl
theorem X3:uE T d (.mkmap 3) fr bl k kw = dG bl d fun b=>iU b (kw (.mp d) [(d,some (.mp 3 (mB [])))]):=PE 3
def DO:List V→Option Int
 | [.d (.int .i64 a),.d (.int .i64 b)]=>if dW a ∧ dW b then some (fD a b) else none
 | _=>none
theorem PA (cs:List V):uF (.agg cs) = DO cs:=by
 unfold uF DO
 split
 ·rename_i a b heq
  cases heq
  rfl
 ·rename_i hn
  split
  ·rename_i a b
   exact absurd rfl (hn a b)
  ·rfl
def HN (n:Int) (b:Bool) (id:Nat) (y:Option aS) (kw:V→List (Nat × Option aS)→Option β):Option β:=match y with
 | some (.mp 3 l)=>if l.length < 1000000000000 then kw .any [(id,some (.mp 3 (fI n (.b b) l)))] else none
 | _=>none
def K7 (n:Int) (y:Option aS) (k:V→Option β):Option β:=match y with
 | some (.mp 3 l)=>k (.d (fT n (.b false) l).d)
 | _=>none
def QY (m a x:V) (bl:List (Nat × Option aS)) (k:V→Option β) (kw:V→List (Nat × Option aS)→Option β):Option β:=AR (match m,uF a,UT x with
  | .mp id,some n,some x=>match lk bl none id with
   | some (.mp 3 l)=>if l.length < 1000000000000 then some (.any,[(id,some (.mp 3 (fI n (.b x) l)))]) else none
   | _=>none
  | _,_,_=>none) k kw
def QQ (m a:V) (bl:List (Nat × Option aS)) (k:V→Option β):Option β:=AR (match m,uF a with
  | .mp id,some n=>match lk bl none id with
   | some (.mp 3 l)=>some (.d (fT n (.b false) l).d,[])
   | _=>none
  | _,_=>none) k fun _ _=>none
theorem aAM (m a x:dH):uE T d (.mputP m a x) fr bl k kw = dV fr m fun mv=>dV fr a fun av=>dV fr x fun xv=>QY mv av xv bl k kw:=by
 rw [kU]
 rfl
theorem aBL (m a:dH):uE T d (.mgetP m a) fr bl k kw = dV fr m fun mv=>dV fr a fun av=>QQ mv av bl k:=by
 rw [kU]
 show AR (match cR (lk fr .any) m,uF (cR (lk fr .any) a) with
  | .mp id,some n=>match lk bl none id with
   | some (.mp 3 l)=>some (.d (fT n (.b false) l).d,[])
   | _=>none
  | _,_=>none) k kw = AR (match cR (lk fr .any) m,uF (cR (lk fr .any) a) with
  | .mp id,some n=>match lk bl none id with
   | some (.mp 3 l)=>some (.d (fT n (.b false) l).d,[])
   | _=>none
  | _,_=>none) k fun _ _=>none
 split
 ·split <;> rfl
 ·rfl
def FR (x y:D) (f:Int→Option β):Option β:=match x,y with
 | .int .i64 a,.int .i64 b=>if dW a then (if dW b then f (fD a b) else none) else none
 | _,_=>none
theorem aDH (a b:Int) (f:Int→Option β):FR (.int .i64 a) (.int .i64 b) f = if dW a then (if dW b then f (fD a b) else none) else none:=rfl
theorem aBx (x y:D) (f:Int→Option β):(DO [.d x,.d y]).bind f = FR x y f:=by
 unfold DO FR
 split
 ·rename_i a b heq
  cases heq
  dsimp only
  by_cases h1:dW a
  ·by_cases h2:dW b
   ·rw [if_pos ⟨h1,h2⟩,if_pos h1,if_pos h2]; rfl
   ·rw [if_neg (fun q=>h2 q.2),if_pos h1,if_neg h2]; rfl
  ·rw [if_neg (fun q=>h1 q.1),if_neg h1]; rfl
 ·rename_i hn
  split
  ·rename_i a b
   exact absurd rfl (hn a b)
  ·rfl
theorem YG (ds:List D) (f:Int→Option β):(DO (bQ ds)).bind f = iC ds 0 fun x=>iC ds 1 fun y=>tT ds 2 (FR x y f):=by
 match ds with
 | []=>rfl
 | [x] =>
  have e:DO (bQ [x]) = none:=by
   unfold DO
   split
   ·rename_i heq
    simp [bQ] at heq
   ·rfl
  show (DO (bQ [x])).bind f = none
  rw [e]
  rfl
 | [x,y]=>exact aBx x y f
 | x :: y :: z :: r =>
  have e:DO (bQ (x :: y :: z :: r)) = none:=by
   unfold DO
   split
   ·rename_i heq
    simp [bQ] at heq
   ·rfl
  show (DO (bQ (x :: y :: z :: r))).bind f = (if (x :: y :: z :: r).length = 2 then FR x y f else none)
  rw [e,if_neg (by simp)]
  rfl
theorem UL (id:Nat) (a:V):QQ (.mp id) a bl k = (uF a).bind fun n=>dG bl id fun y=>K7 n y k:=by
 unfold QQ dG
 cases uF a with
 | none=>rfl
 | some n =>
  show AR (match lk bl none id with
   | some (.mp 3 l)=>some (.d (fT n (.b false) l).d,[])
   | _=>none) k (fun _ _=>none) = K7 n (lk bl none id) k
  unfold K7
  split <;> rfl
theorem TF (id:Nat) (a:V) (b:Bool):QY (.mp id) a (.d (.bool b)) bl k kw = (uF a).bind fun n=>dG bl id fun y=>HN n b id y kw:=by
 unfold QY dG
 cases uF a with
 | none=>rfl
 | some n =>
  show AR (match lk bl none id with
   | some (.mp 3 l)=>if l.length < 1000000000000 then some (.any,[(id,some (.mp 3 (fI n (.b b) l)))]) else none
   | _=>none) k kw = HN n b id (lk bl none id) kw
  unfold HN
  split
  ·split <;> rfl
  ·rfl
theorem aAg (id:Nat) (ds:List D):QQ (.mp id) (oK ds) bl k = iC ds 0 fun x=>iC ds 1 fun y=>tT ds 2 (FR x y fun n=>dG bl id fun z=>K7 n z k):=by
 rw [UL]
 show (uF (.agg (bQ ds))).bind _ = _
 rw [PA,YG]
theorem aBr (id:Nat) (ds:List D) (b:Bool):QY (.mp id) (oK ds) (.d (.bool b)) bl k kw = iC ds 0 fun x=>iC ds 1 fun y=>tT ds 2 (FR x y fun n=>dG bl id fun z=>HN n b id z kw):=by
 rw [TF]
 show (uF (.agg (bQ ds))).bind _ = _
 rw [PA,YG]
theorem aBj (n:Int) (b:Bool) (id:Nat) (m:MB):HN n b id (some (.mp 3 (mB m))) kw = if m.length < 1000000000000 then kw .any [(id,some (.mp 3 (mB (fI n b m))))] else none:=by
 unfold HN
 simp only [aI1,aI2]
theorem aAU (n:Int) (m:MB):K7 n (some (.mp 3 (mB m))) k = k (.d (.bool (fT n false m))):=by
 show k (.d (fT n (.b false) (mB m)).d) = _
 rw [aKi]
 rfl
end
end Vm
end Go.Proofs.Ytiimibimkpimbaa
set_option linter.unusedVariables false
set_option linter.unusedSimpArgs false
namespace Go.Proofs.Ytiimibimkpimbaa
namespace Vm
open Go.RowKit
section
variable {β:Type} {T:vT} {d:Nat} {fr:List (Nat × V)} {bl:List (Nat × Option aS)} {k:V→Option β} {kw:V→List (Nat × Option aS)→Option β}
end
end Vm
end Go.Proofs.Ytiimibimkpimbaa
