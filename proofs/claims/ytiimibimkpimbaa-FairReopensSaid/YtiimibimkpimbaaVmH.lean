/- A map that is laid and ranged over, each entry written into a row of the call's own: in whatever order. The small machine, read from the front: a range over a map that is laid. A range over a map keyed by numbers, each round of which is code of the small machine: in whatever order. The small machine, read from the front: maps of bools keyed by numbers. The small machine, read from the front: maps of numbers keyed by numbers. 'slices.Sorted(maps.Keys(m))' as one piece: what it does to the state. -/
import Derived.Test.YtiimibimkpimbaaVmD
import Derived.Maps.RangeWalk
import Derived.WalkArith
import Derived.Test.YtiimibimkpimbaaVmF
import Derived.Laws.IdiomRangeMap
set_option linter.unusedVariables false
set_option linter.unusedSimpArgs false
namespace Go.Proofs.Ytiimibimkpimbaa
namespace Vm
open Go.RowKit Go.Maps
section
variable {P:Program} {nt:Nat} {w0:fE} {w w' : World} {h0 h:Hp} {fr:Nat->V} {bl:Nat->Option aM} {a:Act} {hd:Nat->Value}
structure ZR (w0:fE) (h:Hp) (bl:Nat->Option aM) (hd:Nat->Value) (g:Nat):Prop where
 own:w0.own g
 out:h g = none
 off:∀ id b,bl id = some b->b.live = true->hJ (hd id) ≠ some g
theorem ZR.new (r:Rl nt w0 h0 fr bl a w h hd) {g:Nat} (hg:w.heap.size <= g):ZR w0 h bl hd g where
 own:=.inl (Nat.le_trans r.below.size hg)
 out:=EH r.hle hg
 off:=fun id b hb hl q=>by have:=((r.blk id b hb).num hl q).2.1; omega
inductive aMQ where
 | vm (so:bK)
 | ins (k t:Nat)
structure aIT where
 it:Nat
 nx:Nat
 ok:Nat
 en:Nat
 k1:Nat
 v1:Nat
 kk:Nat
 vv:Nat
 d1:Nat
 d2:Nat
 d3:Nat
 dc:Nat
 da:Nat
 out:Nat
def aIT.slots (L:aIT):List Nat:=[L.nx,L.ok,L.en,L.k1,L.v1,L.kk,L.vv,L.d1,L.d2,L.d3,L.dc,L.da]
def aHk {α:Type} (Q:α->Prop):List α->Prop
 | []=>True
 | x :: l=>Q x ∧ aHk Q l
theorem aHk.all {α:Type} {Q:α->Prop}:∀ {l:List α},aHk Q l->∀ x ∈ l,Q x
 | [],_,x,h=>by simp at h
 | y :: l,q,x,h=>by
  rcases List.mem_cons.1 h with rfl | h
  ·exact q.1
  ·exact aHk.all q.2 x h
end
end Vm
end Go.Proofs.Ytiimibimkpimbaa
set_option linter.unusedVariables false
set_option linter.unusedSimpArgs false
namespace Go.Proofs.Ytiimibimkpimbaa
namespace Vm
open Go.RowKit
section
variable {β:Type} {T:vW} {fr:List (Nat × V)} {bl:List (Nat × Option aM)}
end
end Vm
end Go.Proofs.Ytiimibimkpimbaa
set_option linter.unusedVariables false
set_option linter.unusedSimpArgs false
namespace Go.Proofs.Ytiimibimkpimbaa
namespace Vm
open Go.RowKit Go.Maps
def fE.now (b:fE) (w:World) (rr it:Nat) (itv:Value):fE:={ w with L:=fun g=>b.own g ∧ g ≠ rr ∧ g < w.heap.size,F:=fun i=>if i = it then some itv else none,O:=b.O }
section
variable {P:Program} {nt:Nat} {w0:fE} {w w' : World} {h0 h h' : Hp} {fr fr' : Nat->V} {bl bl' : Nat->Option aM} {a a' : Act} {hd hd' : Nat->Value} {rr it:Nat} {itv:Value}
theorem RG {b:fE} (hs:b.heap.size <= w.heap.size) {g:Nat} (h:(b.now w rr it itv).own g):b.own g:=by
 rcases h with h | h
 ·exact .inl (Nat.le_trans hs h)
 ·exact h.1
theorem WM {b:fE} (hlt:rr < w.heap.size):¬ (b.now w rr it itv).own rr:=by
 rintro (h | h)
 ·exact absurd h (Nat.not_le_of_lt hlt)
 ·exact h.2.1 rfl
theorem BR.rebase {b0 b1:fE} {id:Nat} {b:aM} (hown:b.live = true->∀ g,hJ (hd id) = some g->b0.own g) (hO:b0.O = b1.O) (r:BR b1 w h hd bl id b):BR b0 w h hd bl id b:=by
 cases b with
 | box cs =>
  obtain ⟨g,arr,e,h1,h2,h3⟩:=r
  exact ⟨g,arr,e,h1,hown rfl g (by rw [h1]; rfl),h3⟩
 | rows ver e size rows =>
  obtain ⟨h1,h2,h3,h4⟩:=r
  exact ⟨h1,h2,h3,fun g hg=>⟨(h4 g hg).1,hown rfl g hg⟩⟩
 | froz ver rows=>exact r
 | fbox cs=>exact r
 | mp ek m =>
  obtain ⟨g,h1,h2,h3⟩:=r
  exact ⟨g,h1,hown rfl g (by rw [h1]; rfl),h3⟩
 | fmp ek m=>exact r
 | outer cs =>
  intro j x hx
  rw [hO]
  exact r j x hx
theorem Rl.now (r:Rl nt w0 h0 fr bl a w h hd) (hS:ZR w0 h bl hd rr) (hit:a.tmps.getD it undef = itv):Rl nt (w0.now w rr it itv) h fr bl a w h hd where
 tmps:=r.tmps
 defers:=r.defers
 fixed:=fun t v e=>by
  simp only [fE.now] at e
  split at e
  ·rename_i q; cases e; rw [q]; exact hit
  ·cases e
 below:=xQ.refl _ _
 hle:=r.hle
 h0le:=Hp.le.refl _
 hbase:=fun _ _=>rfl
 frame:=r.frame
 blk:=fun id b hb=>BR.rebase (b1:=w0) (fun hl g hg=>by
  obtain ⟨q1,q2,_⟩:=(r.blk id b hb).num hl hg
  exact .inr ⟨q1,fun e=>hS.off id b hb hl (e ▸ hg),q2⟩) rfl (r.blk id b hb)
 sep:=r.sep
theorem Rl.back (hF:∀ t,w0.F t = none) (r:Rl nt w0 h0 fr bl a w h hd) (r' : Rl nt (w0.now w rr it itv) h fr' bl' a' w' h' hd'):Rl nt w0 h0 fr' bl' a' w' h' hd' where
 tmps:=r'.tmps
 defers:=r'.defers
 fixed:=fun t v e=>by rw [hF t] at e; cases e
 below:=r.below.trans ⟨r'.below.os,r'.below.tape,r'.below.output,r'.below.size,fun k hk=>r'.below.block k fun q=>hk (RG r.below.size q)⟩
 hle:=r'.hle
 h0le:=r.h0le.trans r'.h0le
 hbase:=fun b hb=>(r'.hbase b fun q=>hb (RG r.below.size q)).trans (r.hbase b hb)
 frame:=r'.frame
 blk:=fun id b hb=>BR.rebase (b1:=w0.now w rr it itv) (fun hl g hg=>RG r.below.size ((r'.blk id b hb).num hl hg).1) rfl (r'.blk id b hb)
 sep:=r'.sep
theorem ZR.back (hS:ZR w0 h bl hd rr) (hlt:rr < w.heap.size) (r' : Rl nt (w0.now w rr it itv) h fr' bl' a' w' h' hd'):ZR w0 h' bl' hd' rr ∧ w'.heap[rr]? = w.heap[rr]? :=
 ⟨⟨hS.own,(r'.hbase rr (WM hlt)).trans hS.out,fun id b hb hl q=>WM hlt ((r'.blk id b hb).num hl q).1⟩,r'.below.block rr (WM hlt)⟩
structure Y6 where
 it:Nat
 nx:Nat
 ok:Nat
 en:Nat
 k1:Nat
 kk:Nat
def Y6.slots (L:Y6):List Nat:=[L.nx,L.ok,L.en,L.k1,L.kk]
structure aMV (L:Y6) (oN oX e0 e1 e2:Oper):Prop where
 hN:oN.guard = none ∧ oN.op = .next (.tmp L.it) false ∧ oN.dst = some L.nx
 hX:oX.guard = none ∧ oX.op = .extract (.tmp L.nx) 0 ∧ oX.dst = some L.ok
 h0:e0.guard = none ∧ e0.op = .entry (.tmp L.it) ∧ e0.dst = some L.en
 h1:e1.guard = none ∧ e1.op = .extract (.tmp L.en) 0 ∧ e1.dst = some L.k1
 h2:e2.guard = none ∧ (e2.op = .assign (.tmp L.k1) ∨ e2.op = .move (.tmp L.k1)) ∧ e2.dst = some L.kk
def aLE (l:List (Int × ML)) (k:Int):Bool:=l.any fun p=>decide (p.1 = k)
structure aML (ek0:Nat) (C:Nat->List D->Option D) (n m:Nat) (L:Y6) (sc:aT) (s s2:St):Prop where
 ex:∃ (ek:Nat) (l:List (Int × ML)) (Inv:(Int->Bool)->(Nat->V)->(Nat->Option aM)->Prop),(frT m s).get m = .d (.mp ek l) ∧ (ek = ek0 ∨ ek = 2) ∧
  (∀ left fr bl fr',Inv left fr bl->(∀ t,t ∉ L.it :: L.slots->fr' t = fr t)->Inv left fr' bl) ∧
  (∀ left (s:St) (k:Int),dP k->Inv left s.get s.blk->left k = true->s.get L.kk = .d (.int .i64 k)->∃ s',cA C n sc s = some (.normal,s') ∧ Inv (fun z=>left z && !decide (z = k)) s'.get s'.blk) ∧
  Inv (fun k=>aLE l k) (frT m s).get (frT m s).blk ∧
  ∀ s' : St,Inv (fun _=>false) s'.get s'.blk->(∀ t,s2.get t = .any ∨ s2.get t = s'.get t) ∧ s2.blk = s'.blk
end
section
variable {P:Program} {nt:Nat}
theorem aF.cond {co:Operand} {o:dG} {c d:Code} {x y:aT} (h0:i6 co = some o) (h1:aF P nt c x) (h2:aF P nt d y):aF P nt (.cond co c d) (.cond o x y):=by
 intro C hC n w0 h0' s s' ex a w h hd Q hF he r hQ
 have hc:=b7 r.frame h0
 simp only [cA] at he
 split at he
 ·rename_i hb
  rw [hb] at hc
  exact wp_cond_true (pQ hc) (h1 C hC n w0 h0' s s' ex a w h hd Q hF he r hQ)
 ·rename_i hb
  rw [hb] at hc
  exact wp_cond_false (pQ hc) (h2 C hC n w0 h0' s s' ex a w h hd Q hF he r hQ)
 ·cases he
theorem aF.block {id:Nat} {c:Code} {x:aT} (h1:aF P nt c x):aF P nt (.block id c) (.block id x):=by
 intro C hC n w0 h0 s s' ex a w h hd Q hF he r hQ
 refine wp_block ?_
 simp only [cA] at he
 split at he
 ·rename_i id'' s1 he1
  refine h1 C hC n w0 h0 s s1 (.exit id'') a w h hd _ hF he1 r fun a' w' h' hd' r'=>?_
  simp only [Ex.go,Exit.inBlock]
  split at he
  ·rename_i hid
   cases he
   rw [if_pos hid]
   exact hQ _ _ _ _ r'
  ·rename_i hid
   cases he
   rw [if_neg hid]
   exact hQ _ _ _ _ r'
 ·rename_i hne
  refine h1 C hC n w0 h0 s s' ex a w h hd _ hF he r fun a' w' h' hd' r'=>?_
  cases ex with
  | normal=>exact hQ _ _ _ _ r'
  | exit id=>exact absurd he (hne _ _)
  | ret=>exact hQ _ _ _ _ r'
theorem aF.loop {c:Code} {x:aT} (h1:aF P nt c x):aF P nt (.loop c) (.loop x):=by
 intro C hC n w0 h0 s s' ex a w h hd Q hF he r hQ
 simp only [cA] at he
 refine UQ (fun k a w=>∃ s h hd,rS (cA C n x) k s = some (ex,s') ∧ Rl nt w0 h0 s.get s.blk a w h hd) (fun a w ⟨s,h,hd,q,_⟩=>by simp [rS] at q) ?_ n a w ⟨s,h,hd,he,r⟩
 rintro k a w ⟨s,h,hd,q,r⟩
 simp only [rS] at q
 split at q
 ·rename_i s1 he1
  exact h1 C hC n w0 h0 s s1 .normal a w h hd _ hF he1 r fun a' w' h' hd' r'=>⟨s1,h',hd',q,r'⟩
 ·rename_i hne
  refine h1 C hC n w0 h0 s s' ex a w h hd _ hF q r fun a' w' h' hd' r'=>?_
  cases ex with
  | normal=>exact absurd q (hne _)
  | exit id=>exact hQ _ _ _ _ r'
  | ret=>exact hQ _ _ _ _ r'
end
end Vm
end Go.Proofs.Ytiimibimkpimbaa
set_option linter.unusedVariables false
set_option linter.unusedSimpArgs false
namespace Go.Proofs.Ytiimibimkpimbaa
namespace Vm
open Go.RowKit
abbrev MB:=List (Int × Bool)
def mB (m:MB):List (Int × ML):=m.map fun p=>(p.1,ML.b p.2)
theorem aCz (k:Int) (b:Bool):∀ m:MB,rR k (ML.b b) (mB m) = mB (rR k b m)
 | []=>rfl
 | y :: r=>by
  show (if k < y.1 then _ else _) = mB (if k < y.1 then _ else _)
  split
  ·rfl
  ·show (y.1,ML.b y.2) :: rR k (.b b) (mB r) = (y.1,ML.b y.2) :: mB (rR k b r)
   rw [aCz k b r]
theorem aJP (k:Int) (m:MB):v8 k (mB m) = mB (v8 k m):=by
 unfold v8 mB
 rw [List.filter_map]
 rfl
theorem aI8 (k:Int) (b:Bool) (m:MB):fM k (ML.b b) (mB m) = mB (fM k b m):=by
 unfold fM
 rw [aJP,aCz]
theorem aJS (k:Int) (z:Bool) (m:MB):fT k (ML.b z) (mB m) = .b (fT k z m):=by
 unfold fT mB
 rw [List.find?_map]
 have e:(fun p:Int × ML=>decide (p.1 = k)) ∘ (fun p:Int × Bool=>(p.1,ML.b p.2)) = fun p:Int × Bool=>decide (p.1 = k):=rfl
 rw [e]
 cases m.find? fun p=>decide (p.1 = k) <;> rfl
theorem aJu (m:MB):(mB m).length = m.length:=List.length_map ..
section
variable {β:Type} {T:vW} {d:Nat} {fr:List (Nat × V)} {bl:List (Nat × Option aM)} {k:V->Option β} {kw:V->List (Nat × Option aM)->Option β}
theorem PJ (ek:Nat):uG T d (.mkmap ek) fr bl k kw = dF bl d fun b=>jH b (kw (.mp d) [(d,some (.mp ek []))]):=by
 unfold uG dF
 simp only [eH]
 cases lk bl none d <;> rfl
def aDe (ek:Nat) (m a x:V) (bl:List (Nat × Option aM)) (k:V->Option β) (kw:V->List (Nat × Option aM)->Option β):Option β:=AR (match m,GC a,aBk x with
  | .mp id,some n,some x=>match lk bl none id with
   | some (.mp ek' l)=>if x.kind = ek ∧ ek' = ek ∧ l.length < 1000000000000 then some (.any,[(id,some (.mp ek (fM n x l)))]) else none
   | _=>none
  | _,_,_=>none) k kw
theorem aDm (ek:Nat) (m a x:dG):uG T d (.mput ek m a x) fr bl k kw = dX fr m fun mv=>dX fr a fun av=>dX fr x fun xv=>aDe ek mv av xv bl k kw:=by
 rw [lC]
 rfl
def IM (z:ML) (m a:V) (bl:List (Nat × Option aM)) (k:V->Option β):Option β:=match NK (lk bl none) m,GC a with
 | some (ek,l),some n=>if l.isEmpty = true ∨ z.kind = ek then k (.d (fT n z l).d) else none
 | _,_=>none
theorem aDD (z:ML) (m a:dG):uG T d (.mget z m a) fr bl k kw = dX fr m fun mv=>dX fr a fun av=>IM z mv av bl k:=by
 unfold uG dX IM
 simp only [eH]
 cases NK (lk bl none) (cX (lk fr .any) m) with
 | none=>rfl
 | some p =>
  cases GC (cX (lk fr .any) a) with
  | none=>rfl
  | some n =>
   obtain ⟨ek,l⟩:=p
   simp only
   by_cases h:l.isEmpty = true ∨ z.kind = ek
   ·rw [if_pos h,if_pos h]
   ·rw [if_neg h,if_neg h]
def d1M (id:Nat) (b:Option aM) (k:D->List (Nat × Option aM)->Option β):Option β:=match b with
 | some (.mp ek m)=>k (.mp ek m) [(id,some (.fmp ek m))]
 | some (.fmp ek m)=>k (.mp ek m) []
 | _=>none
theorem aJn (id ek:Nat) (m:List (Int × ML)) (k:D->List (Nat × Option aM)->Option β):d1M id (some (.mp ek m)) k = k (.mp ek m) [(id,some (.fmp ek m))]:=rfl
theorem aJq (id:Nat) (k:D->List (Nat × Option aM)->Option β):d1K (.mp id) bl k = dF bl id fun b=>d1M id b k:=by
 unfold d1K dF d1M
 simp only [mJ,C8,sV,D9]
 generalize lk bl none id = b
 cases b with
 | none=>rfl
 | some b=>cases b <;> rfl
def tQ:List V->Option β->Option β
 | [],y=>y
 | v :: l,y=>if v.noTup = true then tQ l y else none
theorem OG (y:Option β):∀ l:List V,tQ l y = if l.all V.noTup = true then y else none
 | []=>rfl
 | v :: l=>by
  by_cases h:v.noTup = true
  ·simp [tQ,h,OG y l]
  ·simp [tQ,h]
theorem aHC (dst:Option Nat) (slots:List Nat) (cs:List V) (v u:V) (l:List V) (k:List (Nat × V)->Option β):N3 dst slots cs (v :: u :: l) k = tQ (v :: u :: l) (k (J0 dst (.tup (v :: u :: l)) ++ slots.zip cs)):=by
 rw [MM,OG]
theorem WD (y:Option β):tQ [] y = y:=rfl
theorem aFc (x:D) (l:List V) (y:Option β):tQ (.d x :: l) y = tQ l y:=rfl
theorem XX (i v:Nat) (l:List V) (y:Option β):tQ (.own i v :: l) y = tQ l y:=rfl
theorem V9 (i v:Nat) (l:List V) (y:Option β):tQ (.ptr i v :: l) y = tQ l y:=rfl
theorem aCX (l:List V) (y:Option β):tQ (.nil :: l) y = tQ l y:=rfl
section
variable (keep:List Nat)
def YA (id:Nat) (b:Option aM) (k:V->Option β):Option β:=match b with
 | some (.mp _ _)=>k8 keep id (k (.mp id)) (k .any)
 | some (.fmp ek m)=>k (.d (.mp ek m))
 | _=>k .any
theorem aFa (id:Nat):wA keep bl (.mp id) k = dF bl id fun b=>YA keep id b k:=by
 unfold wA dF YA k8
 simp only [E8,N9,tR]
 generalize lk bl none id = b
 cases b with
 | none=>rfl
 | some b=>cases b <;> first | rfl | (simp only; cases h:keep.contains id <;> simp)
theorem ZS (id ek:Nat) (m:List (Int × ML)):YA keep id (some (.mp ek m)) k = k8 keep id (k (.mp id)) (k .any):=rfl
theorem aAB (id:Nat) (cs:List V) (k:List V->Option β):xN keep bl (.mp id :: cs) k = wA keep bl (.mp id) fun v=>xN keep bl cs fun l=>k (v :: l):=by simp only [AQ]; rfl
theorem aAd (ek:Nat) (m:List (Int × ML)) (k:Option aM->Option β):AV keep bl (some (.mp ek m)) k = k (some (.mp ek m)):=rfl
end
theorem aHV (i:Nat) (k:List Nat->Option β):DC (.mp i) k = k [i]:=rfl
end
end Vm
end Go.Proofs.Ytiimibimkpimbaa
set_option linter.unusedVariables false
set_option linter.unusedSimpArgs false
namespace Go.Proofs.Ytiimibimkpimbaa
namespace Vm
open Go.RowKit
abbrev MI:=List (Int × Int)
def mI (m:MI):List (Int × ML):=m.map fun p=>(p.1,ML.i p.2)
def eI:Option MI->D
 | none=>.mp 2 []
 | some m=>.mp 0 (mI m)
def R6 (k z:Int):Option MI->Int
 | none=>z
 | some m=>fT k z m
theorem aCR (k b:Int):∀ m:MI,rR k (ML.i b) (mI m) = mI (rR k b m)
 | []=>rfl
 | y :: r=>by
  show (if k < y.1 then _ else _) = mI (if k < y.1 then _ else _)
  split
  ·rfl
  ·show (y.1,ML.i y.2) :: rR k (.i b) (mI r) = (y.1,ML.i y.2) :: mI (rR k b r)
   rw [aCR k b r]
theorem aKn (k:Int) (m:MI):v8 k (mI m) = mI (v8 k m):=by
 unfold v8 mI
 rw [List.filter_map]
 rfl
theorem aJI (k b:Int) (m:MI):fM k (ML.i b) (mI m) = mI (fM k b m):=by
 unfold fM
 rw [aKn,aCR]
theorem aEl (k z:Int) (m:MI):fT k (ML.i z) (mI m) = .i (fT k z m):=by
 unfold fT mI
 rw [List.find?_map]
 have e:(fun p:Int × ML=>decide (p.1 = k)) ∘ (fun p:Int × Int=>(p.1,ML.i p.2)) = fun p:Int × Int=>decide (p.1 = k):=rfl
 rw [e]
 cases m.find? fun p=>decide (p.1 = k) <;> rfl
theorem aKf (m:MI):(mI m).length = m.length:=List.length_map ..
section
variable {β:Type} {T:vW} {d:Nat} {fr:List (Nat × V)} {bl:List (Nat × Option aM)} {k:V->Option β} {kw:V->List (Nat × Option aM)->Option β}
theorem VW:uG T d (.mkmap 0) fr bl k kw = dF bl d fun b=>jH b (kw (.mp d) [(d,some (.mp 0 (mI [])))]):=PJ 0
def Q3 (n b:Int) (id:Nat) (y:Option aM) (kw:V->List (Nat × Option aM)->Option β):Option β:=match y with
 | some (.mp 0 l)=>if l.length < 1000000000000 then kw .any [(id,some (.mp 0 (fM n (.i b) l)))] else none
 | _=>none
theorem VG (id:Nat) (n b:Int):aDe 0 (.mp id) (.d (.int .i64 n)) (.d (.int .i64 b)) bl k kw = if dP n then (if dP b then dF bl id fun y=>Q3 n b id y kw else none) else none:=by
 unfold aDe
 simp only [GC,aBk]
 by_cases h:dP n
 ·rw [if_pos h,if_pos h]
  by_cases h2:dP b
  ·rw [if_pos h2,if_pos h2]
   unfold dF
   simp only
   cases lk bl none id with
   | none=>rfl
   | some y =>
    cases y with
    | mp ek l =>
     simp only [ML.kind,true_and]
     by_cases e:ek = 0
     ·subst e
      simp only [true_and,Q3]
      split <;> rfl
     ·rw [if_neg (fun q=>e q.1)]
      match ek,e with
      | 0,e=>exact absurd rfl e
      | _ + 1,_=>rfl
    | _=>rfl
  ·rw [if_neg h2,if_neg h2]
   rfl
 ·rw [if_neg h,if_neg h]
  rfl
theorem aBt (n b:Int) (id:Nat) (m:MI):Q3 n b id (some (.mp 0 (mI m))) kw = if m.length < 1000000000000 then kw .any [(id,some (.mp 0 (mI (fM n b m))))] else none:=by
 unfold Q3
 simp only [aKf,aJI]
def aEp (z n:Int) (y:Option aM) (k:V->Option β):Option β:=match y with
 | some (.mp ek l)=>if l.isEmpty = true ∨ 0 = ek then k (.d (fT n (.i z) l).d) else none
 | some (.fmp ek l)=>if l.isEmpty = true ∨ 0 = ek then k (.d (fT n (.i z) l).d) else none
 | _=>none
theorem WZ (z:Int) (id:Nat) (n:Int):IM (.i z) (.mp id) (.d (.int .i64 n)) bl k = if dP n then dF bl id fun y=>aEp z n y k else none:=by
 unfold IM
 simp only [GC,NK]
 by_cases h:dP n
 ·rw [if_pos h,if_pos h]
  unfold dF
  cases lk bl none id with
  | none=>rfl
  | some y=>cases y <;> rfl
 ·rw [if_neg h,if_neg h]
  cases lk bl none id with
  | none=>rfl
  | some y=>cases y <;> rfl
theorem aBO (z n:Int) (m:MI):aEp z n (some (.mp 0 (mI m))) k = k (.d (.int .i64 (fT n z m))):=by
 show (if (mI m).isEmpty = true ∨ (0:Nat) = 0 then k (.d (fT n (.i z) (mI m)).d) else none) = _
 rw [if_pos (.inr rfl),aEl]
 rfl
theorem RZ (z n:Int) (m:MI):IM (.i z) (.d (.mp 0 (mI m))) (.d (.int .i64 n)) bl k = if dP n then k (.d (.int .i64 (fT n z m))) else none:=by
 unfold IM
 simp only [GC,NK]
 by_cases h:dP n
 ·rw [if_pos h,if_pos h]
  show (if (mI m).isEmpty = true ∨ (0:Nat) = 0 then k (.d (fT n (.i z) (mI m)).d) else none) = _
  rw [if_pos (.inr rfl),aEl]
  rfl
 ·rw [if_neg h,if_neg h]
theorem aEf (z n:Int) (x:Option MI):IM (.i z) (.d (eI x)) (.d (.int .i64 n)) bl k = if dP n then k (.d (.int .i64 (R6 n z x))) else none:=by
 cases x with
 | none =>
  unfold IM
  simp only [GC,NK,eI]
  by_cases h:dP n
  ·rw [if_pos h,if_pos h]; rfl
  ·rw [if_neg h,if_neg h]
 | some m=>exact RZ z n m
theorem Y9 (op:jG) (m:dG) (k:List Nat->Option β) (h1:op.new = false) (h2:op.peeks = [m]) (h3:op.deeps = []):H6 d op fr bl k = dX fr m fun v=>DC v k:=by
 unfold H6 dX DC
 rw [h1,h2,h3]
 simp
theorem aDZ (z:ML) (m a:dG) (k:List Nat->Option β):H6 d (.mget z m a) fr bl k = dX fr m fun v=>DC v k:=Y9 _ _ _ rfl rfl rfl
theorem aD4 (e:Nat) (m a x:dG) (k:List Nat->Option β):H6 d (.mput e m a x) fr bl k = dX fr m fun v=>DC v k:=Y9 _ _ _ rfl rfl rfl
theorem V6 (off id i:Nat) (c:V) (cs:List V):oR 1 off id (.mp i) (some (.box (c :: cs))) kw = E7 (c :: cs) off (.mp i) fun l=>kw .any [(id,some (.box l))]:=HA off id _ c cs rfl rfl
theorem Z3 (id:Nat) (cs:List V) (kk:List D->List (Nat × Option aM)->Option β):rN bl (.mp id :: cs) kk = d1K (.mp id) bl fun x g=>rN bl cs fun ds f=>kk (x :: ds) (g ++ f):=rfl
theorem WW:uG T d (.mkmap 3) fr bl k kw = dF bl d fun b=>jH b (kw (.mp d) [(d,some (.mp 3 (mB [])))]):=PJ 3
def DM:List V->Option Int
 | [.d (.int .i64 a),.d (.int .i64 b)]=>if dP a ∧ dP b then some (fC a b) else none
 | _=>none
theorem PK (cs:List V):uL (.agg cs) = DM cs:=by
 unfold uL DM
 split
 ·rename_i a b heq
  cases heq
  rfl
 ·rename_i hn
  split
  ·rename_i a b
   exact absurd rfl (hn a b)
  ·rfl
def G7 (n:Int) (b:Bool) (id:Nat) (y:Option aM) (kw:V->List (Nat × Option aM)->Option β):Option β:=match y with
 | some (.mp 3 l)=>if l.length < 1000000000000 then kw .any [(id,some (.mp 3 (fM n (.b b) l)))] else none
 | _=>none
def LZ (n:Int) (y:Option aM) (k:V->Option β):Option β:=match y with
 | some (.mp 3 l)=>k (.d (fT n (.b false) l).d)
 | _=>none
def Q0 (m a x:V) (bl:List (Nat × Option aM)) (k:V->Option β) (kw:V->List (Nat × Option aM)->Option β):Option β:=AR (match m,uL a,UP x with
  | .mp id,some n,some x=>match lk bl none id with
   | some (.mp 3 l)=>if l.length < 1000000000000 then some (.any,[(id,some (.mp 3 (fM n (.b x) l)))]) else none
   | _=>none
  | _,_,_=>none) k kw
def Q2 (m a:V) (bl:List (Nat × Option aM)) (k:V->Option β):Option β:=AR (match m,uL a with
  | .mp id,some n=>match lk bl none id with
   | some (.mp 3 l)=>some (.d (fT n (.b false) l).d,[])
   | _=>none
  | _,_=>none) k fun _ _=>none
theorem aBw (m a x:dG):uG T d (.mputP m a x) fr bl k kw = dX fr m fun mv=>dX fr a fun av=>dX fr x fun xv=>Q0 mv av xv bl k kw:=by
 rw [lC]
 rfl
theorem aAn (m a:dG):uG T d (.mgetP m a) fr bl k kw = dX fr m fun mv=>dX fr a fun av=>Q2 mv av bl k:=by
 rw [lC]
 show AR (match cX (lk fr .any) m,uL (cX (lk fr .any) a) with
  | .mp id,some n=>match lk bl none id with
   | some (.mp 3 l)=>some (.d (fT n (.b false) l).d,[])
   | _=>none
  | _,_=>none) k kw = AR (match cX (lk fr .any) m,uL (cX (lk fr .any) a) with
  | .mp id,some n=>match lk bl none id with
   | some (.mp 3 l)=>some (.d (fT n (.b false) l).d,[])
   | _=>none
  | _,_=>none) k fun _ _=>none
 split
 ·split <;> rfl
 ·rfl
def FT (x y:D) (f:Int->Option β):Option β:=match x,y with
 | .int .i64 a,.int .i64 b=>if dP a then (if dP b then f (fC a b) else none) else none
 | _,_=>none
theorem aE1 (a b:Int) (f:Int->Option β):FT (.int .i64 a) (.int .i64 b) f = if dP a then (if dP b then f (fC a b) else none) else none:=rfl
theorem aAp (x y:D) (f:Int->Option β):(DM [.d x,.d y]).bind f = FT x y f:=by
 unfold DM FT
 split
 ·rename_i a b heq
  cases heq
  dsimp only
  by_cases h1:dP a
  ·by_cases h2:dP b
   ·rw [if_pos ⟨h1,h2⟩,if_pos h1,if_pos h2]; rfl
   ·rw [if_neg (fun q=>h2 q.2),if_pos h1,if_neg h2]; rfl
  ·rw [if_neg (fun q=>h1 q.1),if_neg h1]; rfl
 ·rename_i hn
  split
  ·rename_i a b
   exact absurd rfl (hn a b)
  ·rfl
theorem Y4 (ds:List D) (f:Int->Option β):(DM (bQ ds)).bind f = iL ds 0 fun x=>iL ds 1 fun y=>tZ ds 2 (FT x y f):=by
 match ds with
 | []=>rfl
 | [x] =>
  have e:DM (bQ [x]) = none:=by
   unfold DM
   split
   ·rename_i heq
    simp [bQ] at heq
   ·rfl
  show (DM (bQ [x])).bind f = none
  rw [e]
  rfl
 | [x,y]=>exact aAp x y f
 | x :: y :: z :: r =>
  have e:DM (bQ (x :: y :: z :: r)) = none:=by
   unfold DM
   split
   ·rename_i heq
    simp [bQ] at heq
   ·rfl
  show (DM (bQ (x :: y :: z :: r))).bind f = (if (x :: y :: z :: r).length = 2 then FT x y f else none)
  rw [e,if_neg (by simp)]
  rfl
theorem TX (id:Nat) (a:V):Q2 (.mp id) a bl k = (uL a).bind fun n=>dF bl id fun y=>LZ n y k:=by
 unfold Q2 dF
 cases uL a with
 | none=>rfl
 | some n =>
  show AR (match lk bl none id with
   | some (.mp 3 l)=>some (.d (fT n (.b false) l).d,[])
   | _=>none) k (fun _ _=>none) = LZ n (lk bl none id) k
  unfold LZ
  split <;> rfl
theorem RS (id:Nat) (a:V) (b:Bool):Q0 (.mp id) a (.d (.bool b)) bl k kw = (uL a).bind fun n=>dF bl id fun y=>G7 n b id y kw:=by
 unfold Q0 dF
 cases uL a with
 | none=>rfl
 | some n =>
  show AR (match lk bl none id with
   | some (.mp 3 l)=>if l.length < 1000000000000 then some (.any,[(id,some (.mp 3 (fM n (.b b) l)))]) else none
   | _=>none) k kw = G7 n b id (lk bl none id) kw
  unfold G7
  split
  ·split <;> rfl
  ·rfl
theorem aB4 (id:Nat) (ds:List D):Q2 (.mp id) (oC ds) bl k = iL ds 0 fun x=>iL ds 1 fun y=>tZ ds 2 (FT x y fun n=>dF bl id fun z=>LZ n z k):=by
 rw [TX]
 show (uL (.agg (bQ ds))).bind _ = _
 rw [PK,Y4]
theorem aBV (id:Nat) (ds:List D) (b:Bool):Q0 (.mp id) (oC ds) (.d (.bool b)) bl k kw = iL ds 0 fun x=>iL ds 1 fun y=>tZ ds 2 (FT x y fun n=>dF bl id fun z=>G7 n b id z kw):=by
 rw [RS]
 show (uL (.agg (bQ ds))).bind _ = _
 rw [PK,Y4]
theorem aAi (n:Int) (b:Bool) (id:Nat) (m:MB):G7 n b id (some (.mp 3 (mB m))) kw = if m.length < 1000000000000 then kw .any [(id,some (.mp 3 (mB (fM n b m))))] else none:=by
 unfold G7
 simp only [aJu,aI8]
theorem aBC (n:Int) (m:MB):LZ n (some (.mp 3 (mB m))) k = k (.d (.bool (fT n false m))):=by
 show k (.d (fT n (.b false) (mB m)).d) = _
 rw [aJS]
 rfl
end
end Vm
end Go.Proofs.Ytiimibimkpimbaa
set_option linter.unusedVariables false
set_option linter.unusedSimpArgs false
namespace Go.Proofs.Ytiimibimkpimbaa
namespace Vm
open Go.RowKit
section
variable {β:Type} {T:vW} {d:Nat} {fr:List (Nat × V)} {bl:List (Nat × Option aM)} {k:V->Option β} {kw:V->List (Nat × Option aM)->Option β}
end
end Vm
end Go.Proofs.Ytiimibimkpimbaa
