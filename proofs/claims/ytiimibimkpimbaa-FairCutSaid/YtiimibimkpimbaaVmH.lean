/- A map that is laid and ranged over, each entry written into a row of the call's own: in whatever order. The small machine, read from the front: a range over a map that is laid. A range over a map keyed by numbers, each round of which is code of the small machine: in whatever order. The small machine, read from the front: maps of bools keyed by numbers. The small machine, read from the front: maps of numbers keyed by numbers. 'slices.Sorted(maps.Keys(m))' as one piece: what it does to the state. -/
import Derived.Test.YtiimibimkpimbaaVmD
import Derived.Maps.RangeWalk
import Derived.WalkArith
import Derived.Test.YtiimibimkpimbaaVmF
import Derived.Laws.IdiomRangeMap
set_option linter.unusedVariables false
set_option linter.unusedSimpArgs false
namespace Go.Proofs.Ytiimibimkpimbaa
namespace Vm
open Go.RowKit Go.Maps
section
variable {P:Program} {nt:Nat} {w0:fF} {w w' : World} {h0 h:Hp} {fr:Nat→V} {bl:Nat→Option aL} {a:Act} {hd:Nat→Value}
structure aAs (w0:fF) (h:Hp) (bl:Nat→Option aL) (hd:Nat→Value) (g:Nat):Prop where
 own:w0.own g
 out:h g = none
 off:∀ id b,bl id = some b→b.live = true→hJ (hd id) ≠ some g
theorem aAs.new (r:Rl nt w0 h0 fr bl a w h hd) {g:Nat} (hg:w.heap.size ≤ g):aAs w0 h bl hd g where
 own:=.inl (Nat.le_trans r.below.size hg)
 out:=DL r.hle hg
 off:=fun id b hb hl q=>by have:=((r.blk id b hb).num hl q).2.1; omega
inductive aL7 where
 | vm (so:bK)
 | ins (k t:Nat)
structure aH1 where
 it:Nat
 nx:Nat
 ok:Nat
 en:Nat
 k1:Nat
 v1:Nat
 kk:Nat
 vv:Nat
 d1:Nat
 d2:Nat
 d3:Nat
 dc:Nat
 da:Nat
 out:Nat
def aH1.slots (L:aH1):List Nat:=[L.nx,L.ok,L.en,L.k1,L.v1,L.kk,L.vv,L.d1,L.d2,L.d3,L.dc,L.da]
def aHM {α:Type} (Q:α→Prop):List α→Prop
 | []=>True
 | x :: l=>Q x ∧ aHM Q l
theorem aHM.all {α:Type} {Q:α→Prop}:∀ {l:List α},aHM Q l→∀ x ∈ l,Q x
 | [],_,x,h=>by simp at h
 | y :: l,q,x,h=>by
  rcases List.mem_cons.1 h with rfl | h
  ·exact q.1
  ·exact aHM.all q.2 x h
end
end Vm
end Go.Proofs.Ytiimibimkpimbaa
set_option linter.unusedVariables false
set_option linter.unusedSimpArgs false
namespace Go.Proofs.Ytiimibimkpimbaa
namespace Vm
open Go.RowKit
section
variable {β:Type} {T:vF} {fr:List (Nat × V)} {bl:List (Nat × Option aL)}
end
end Vm
end Go.Proofs.Ytiimibimkpimbaa
set_option linter.unusedVariables false
set_option linter.unusedSimpArgs false
namespace Go.Proofs.Ytiimibimkpimbaa
namespace Vm
open Go.RowKit Go.Maps
def fF.now (b:fF) (w:World) (rr it:Nat) (itv:Value):fF:={ w with L:=fun g=>b.own g ∧ g ≠ rr ∧ g < w.heap.size,F:=fun i=>if i = it then some itv else none,O:=b.O }
section
variable {P:Program} {nt:Nat} {w0:fF} {w w' : World} {h0 h h' : Hp} {fr fr' : Nat→V} {bl bl' : Nat→Option aL} {a a' : Act} {hd hd' : Nat→Value} {rr it:Nat} {itv:Value}
theorem PS {b:fF} (hs:b.heap.size ≤ w.heap.size) {g:Nat} (h:(b.now w rr it itv).own g):b.own g:=by
 rcases h with h | h
 ·exact .inl (Nat.le_trans hs h)
 ·exact h.1
theorem V4 {b:fF} (hlt:rr < w.heap.size):¬ (b.now w rr it itv).own rr:=by
 rintro (h | h)
 ·exact absurd h (Nat.not_le_of_lt hlt)
 ·exact h.2.1 rfl
theorem BR.rebase {b0 b1:fF} {id:Nat} {b:aL} (hown:b.live = true→∀ g,hJ (hd id) = some g→b0.own g) (hO:b0.O = b1.O) (r:BR b1 w h hd bl id b):BR b0 w h hd bl id b:=by
 cases b with
 | box cs =>
  obtain ⟨g,arr,e,h1,h2,h3⟩:=r
  exact ⟨g,arr,e,h1,hown rfl g (by rw [h1]; rfl),h3⟩
 | rows ver e size rows =>
  obtain ⟨h1,h2,h3,h4⟩:=r
  exact ⟨h1,h2,h3,fun g hg=>⟨(h4 g hg).1,hown rfl g hg⟩⟩
 | froz ver rows=>exact r
 | fbox cs=>exact r
 | mp ek m =>
  obtain ⟨g,h1,h2,h3⟩:=r
  exact ⟨g,h1,hown rfl g (by rw [h1]; rfl),h3⟩
 | fmp ek m=>exact r
 | outer cs =>
  intro j x hx
  rw [hO]
  exact r j x hx
theorem Rl.now (r:Rl nt w0 h0 fr bl a w h hd) (hS:aAs w0 h bl hd rr) (hit:a.tmps.getD it undef = itv):Rl nt (w0.now w rr it itv) h fr bl a w h hd where
 tmps:=r.tmps
 defers:=r.defers
 fixed:=fun t v e=>by
  simp only [fF.now] at e
  split at e
  ·rename_i q; cases e; rw [q]; exact hit
  ·cases e
 below:=xA.refl _ _
 hle:=r.hle
 h0le:=Hp.le.refl _
 hbase:=fun _ _=>rfl
 frame:=r.frame
 blk:=fun id b hb=>BR.rebase (b1:=w0) (fun hl g hg=>by
  obtain ⟨q1,q2,_⟩:=(r.blk id b hb).num hl hg
  exact .inr ⟨q1,fun e=>hS.off id b hb hl (e ▸ hg),q2⟩) rfl (r.blk id b hb)
 sep:=r.sep
theorem Rl.back (hF:∀ t,w0.F t = none) (r:Rl nt w0 h0 fr bl a w h hd) (r' : Rl nt (w0.now w rr it itv) h fr' bl' a' w' h' hd'):Rl nt w0 h0 fr' bl' a' w' h' hd' where
 tmps:=r'.tmps
 defers:=r'.defers
 fixed:=fun t v e=>by rw [hF t] at e; cases e
 below:=r.below.trans ⟨r'.below.os,r'.below.tape,r'.below.output,r'.below.size,fun k hk=>r'.below.block k fun q=>hk (PS r.below.size q)⟩
 hle:=r'.hle
 h0le:=r.h0le.trans r'.h0le
 hbase:=fun b hb=>(r'.hbase b fun q=>hb (PS r.below.size q)).trans (r.hbase b hb)
 frame:=r'.frame
 blk:=fun id b hb=>BR.rebase (b1:=w0.now w rr it itv) (fun hl g hg=>PS r.below.size ((r'.blk id b hb).num hl hg).1) rfl (r'.blk id b hb)
 sep:=r'.sep
theorem aAs.back (hS:aAs w0 h bl hd rr) (hlt:rr < w.heap.size) (r' : Rl nt (w0.now w rr it itv) h fr' bl' a' w' h' hd'):aAs w0 h' bl' hd' rr ∧ w'.heap[rr]? = w.heap[rr]? :=
 ⟨⟨hS.own,(r'.hbase rr (V4 hlt)).trans hS.out,fun id b hb hl q=>V4 hlt ((r'.blk id b hb).num hl q).1⟩,r'.below.block rr (V4 hlt)⟩
structure YZ where
 it:Nat
 nx:Nat
 ok:Nat
 en:Nat
 k1:Nat
 kk:Nat
def YZ.slots (L:YZ):List Nat:=[L.nx,L.ok,L.en,L.k1,L.kk]
structure aMe (L:YZ) (oN oX e0 e1 e2:Oper):Prop where
 hN:oN.guard = none ∧ oN.op = .next (.tmp L.it) false ∧ oN.dst = some L.nx
 hX:oX.guard = none ∧ oX.op = .extract (.tmp L.nx) 0 ∧ oX.dst = some L.ok
 h0:e0.guard = none ∧ e0.op = .entry (.tmp L.it) ∧ e0.dst = some L.en
 h1:e1.guard = none ∧ e1.op = .extract (.tmp L.en) 0 ∧ e1.dst = some L.k1
 h2:e2.guard = none ∧ (e2.op = .assign (.tmp L.k1) ∨ e2.op = .move (.tmp L.k1)) ∧ e2.dst = some L.kk
def aKQ (l:List (Int × ML)) (k:Int):Bool:=l.any fun p=>decide (p.1 = k)
structure aL5 (ek0:Nat) (C:Nat→List D→Option D) (n m:Nat) (L:YZ) (sc:aT) (s s2:St):Prop where
 ex:∃ (ek:Nat) (l:List (Int × ML)) (Inv:(Int→Bool)→(Nat→V)→(Nat→Option aL)→Prop),(frT m s).get m = .d (.mp ek l) ∧ (ek = ek0 ∨ ek = 2) ∧
  (∀ left fr bl fr',Inv left fr bl→(∀ t,t ∉ L.it :: L.slots→fr' t = fr t)→Inv left fr' bl) ∧
  (∀ left (s:St) (k:Int),dY k→Inv left s.get s.blk→left k = true→s.get L.kk = .d (.int .i64 k)→∃ s',bX C n sc s = some (.normal,s') ∧ Inv (fun z=>left z && !decide (z = k)) s'.get s'.blk) ∧
  Inv (fun k=>aKQ l k) (frT m s).get (frT m s).blk ∧
  ∀ s' : St,Inv (fun _=>false) s'.get s'.blk→(∀ t,s2.get t = .any ∨ s2.get t = s'.get t) ∧ s2.blk = s'.blk
end
section
variable {P:Program} {nt:Nat}
theorem aF.cond {co:Operand} {o:dL} {c d:Code} {x y:aT} (h0:iZ co = some o) (h1:aF P nt c x) (h2:aF P nt d y):aF P nt (.cond co c d) (.cond o x y):=by
 intro C hC n w0 h0' s s' ex a w h hd Q hF he r hQ
 have hc:=bV r.frame h0
 simp only [bX] at he
 split at he
 ·rename_i hb
  rw [hb] at hc
  exact wp_cond_true (pA hc) (h1 C hC n w0 h0' s s' ex a w h hd Q hF he r hQ)
 ·rename_i hb
  rw [hb] at hc
  exact wp_cond_false (pA hc) (h2 C hC n w0 h0' s s' ex a w h hd Q hF he r hQ)
 ·cases he
theorem aF.block {id:Nat} {c:Code} {x:aT} (h1:aF P nt c x):aF P nt (.block id c) (.block id x):=by
 intro C hC n w0 h0 s s' ex a w h hd Q hF he r hQ
 refine wp_block ?_
 simp only [bX] at he
 split at he
 ·rename_i id'' s1 he1
  refine h1 C hC n w0 h0 s s1 (.exit id'') a w h hd _ hF he1 r fun a' w' h' hd' r'=>?_
  simp only [Ex.go,Exit.inBlock]
  split at he
  ·rename_i hid
   cases he
   rw [if_pos hid]
   exact hQ _ _ _ _ r'
  ·rename_i hid
   cases he
   rw [if_neg hid]
   exact hQ _ _ _ _ r'
 ·rename_i hne
  refine h1 C hC n w0 h0 s s' ex a w h hd _ hF he r fun a' w' h' hd' r'=>?_
  cases ex with
  | normal=>exact hQ _ _ _ _ r'
  | exit id=>exact absurd he (hne _ _)
  | ret=>exact hQ _ _ _ _ r'
theorem aF.loop {c:Code} {x:aT} (h1:aF P nt c x):aF P nt (.loop c) (.loop x):=by
 intro C hC n w0 h0 s s' ex a w h hd Q hF he r hQ
 simp only [bX] at he
 refine Q7 (fun k a w=>∃ s h hd,rJ (bX C n x) k s = some (ex,s') ∧ Rl nt w0 h0 s.get s.blk a w h hd) (fun a w ⟨s,h,hd,q,_⟩=>by simp [rJ] at q) ?_ n a w ⟨s,h,hd,he,r⟩
 rintro k a w ⟨s,h,hd,q,r⟩
 simp only [rJ] at q
 split at q
 ·rename_i s1 he1
  exact h1 C hC n w0 h0 s s1 .normal a w h hd _ hF he1 r fun a' w' h' hd' r'=>⟨s1,h',hd',q,r'⟩
 ·rename_i hne
  refine h1 C hC n w0 h0 s s' ex a w h hd _ hF q r fun a' w' h' hd' r'=>?_
  cases ex with
  | normal=>exact absurd q (hne _)
  | exit id=>exact hQ _ _ _ _ r'
  | ret=>exact hQ _ _ _ _ r'
end
end Vm
end Go.Proofs.Ytiimibimkpimbaa
set_option linter.unusedVariables false
set_option linter.unusedSimpArgs false
namespace Go.Proofs.Ytiimibimkpimbaa
namespace Vm
open Go.RowKit
abbrev MB:=List (Int × Bool)
def mB (m:MB):List (Int × ML):=m.map fun p=>(p.1,ML.b p.2)
theorem aDF (k:Int) (b:Bool):∀ m:MB,rL k (ML.b b) (mB m) = mB (rL k b m)
 | []=>rfl
 | y :: r=>by
  show (if k < y.1 then _ else _) = mB (if k < y.1 then _ else _)
  split
  ·rfl
  ·show (y.1,ML.b y.2) :: rL k (.b b) (mB r) = (y.1,ML.b y.2) :: mB (rL k b r)
   rw [aDF k b r]
theorem aJH (k:Int) (m:MB):vJ k (mB m) = mB (vJ k m):=by
 unfold vJ mB
 rw [List.filter_map]
 rfl
theorem aIS (k:Int) (b:Bool) (m:MB):fI k (ML.b b) (mB m) = mB (fI k b m):=by
 unfold fI
 rw [aJH,aDF]
theorem aJl (k:Int) (z:Bool) (m:MB):fV k (ML.b z) (mB m) = .b (fV k z m):=by
 unfold fV mB
 rw [List.find?_map]
 have e:(fun p:Int × ML=>decide (p.1 = k)) ∘ (fun p:Int × Bool=>(p.1,ML.b p.2)) = fun p:Int × Bool=>decide (p.1 = k):=rfl
 rw [e]
 cases m.find? fun p=>decide (p.1 = k) <;> rfl
theorem aIN (m:MB):(mB m).length = m.length:=List.length_map ..
section
variable {β:Type} {T:vF} {d:Nat} {fr:List (Nat × V)} {bl:List (Nat × Option aL)} {k:V→Option β} {kw:V→List (Nat × Option aL)→Option β}
theorem OR (ek:Nat):tT T d (.mkmap ek) fr bl k kw = dK bl d fun b=>jC b (kw (.mp d) [(d,some (.mp ek []))]):=by
 unfold tT dK
 simp only [eG]
 cases lk bl none d <;> rfl
def aBR (ek:Nat) (m a x:V) (bl:List (Nat × Option aL)) (k:V→Option β) (kw:V→List (Nat × Option aL)→Option β):Option β:=yS (match m,FL a,aBz x with
  | .mp id,some n,some x=>match lk bl none id with
   | some (.mp ek' l)=>if x.kind = ek ∧ ek' = ek ∧ l.length < 1000000000000 then some (.any,[(id,some (.mp ek (fI n x l)))]) else none
   | _=>none
  | _,_,_=>none) k kw
theorem aDD (ek:Nat) (m a x:dL):tT T d (.mput ek m a x) fr bl k kw = dX fr m fun mv=>dX fr a fun av=>dX fr x fun xv=>aBR ek mv av xv bl k kw:=by
 rw [k7]
 rfl
def H5 (z:ML) (m a:V) (bl:List (Nat × Option aL)) (k:V→Option β):Option β:=match MS (lk bl none) m,FL a with
 | some (ek,l),some n=>if l.isEmpty = true ∨ z.kind = ek then k (.d (fV n z l).d) else none
 | _,_=>none
theorem aEf (z:ML) (m a:dL):tT T d (.mget z m a) fr bl k kw = dX fr m fun mv=>dX fr a fun av=>H5 z mv av bl k:=by
 unfold tT dX H5
 simp only [eG]
 cases MS (lk bl none) (cU (lk fr .any) m) with
 | none=>rfl
 | some p =>
  cases FL (cU (lk fr .any) a) with
  | none=>rfl
  | some n =>
   obtain ⟨ek,l⟩:=p
   simp only
   by_cases h:l.isEmpty = true ∨ z.kind = ek
   ·rw [if_pos h,if_pos h]
   ·rw [if_neg h,if_neg h]
def d1M (id:Nat) (b:Option aL) (k:D→List (Nat × Option aL)→Option β):Option β:=match b with
 | some (.mp ek m)=>k (.mp ek m) [(id,some (.fmp ek m))]
 | some (.fmp ek m)=>k (.mp ek m) []
 | _=>none
theorem aJt (id ek:Nat) (m:List (Int × ML)) (k:D→List (Nat × Option aL)→Option β):d1M id (some (.mp ek m)) k = k (.mp ek m) [(id,some (.fmp ek m))]:=rfl
theorem aJo (id:Nat) (k:D→List (Nat × Option aL)→Option β):d1K (.mp id) bl k = dK bl id fun b=>d1M id b k:=by
 unfold d1K dK d1M
 simp only [l9,CM,sH,DT]
 generalize lk bl none id = b
 cases b with
 | none=>rfl
 | some b=>cases b <;> rfl
def sT:List V→Option β→Option β
 | [],y=>y
 | v :: l,y=>if v.noTup = true then sT l y else none
theorem NS (y:Option β):∀ l:List V,sT l y = if l.all V.noTup = true then y else none
 | []=>rfl
 | v :: l=>by
  by_cases h:v.noTup = true
  ·simp [sT,h,NS y l]
  ·simp [sT,h]
theorem aFD (dst:Option Nat) (slots:List Nat) (cs:List V) (v u:V) (l:List V) (k:List (Nat × V)→Option β):N2 dst slots cs (v :: u :: l) k = sT (v :: u :: l) (k (I8 dst (.tup (v :: u :: l)) ++ slots.zip cs)):=by
 rw [LA,NS]
theorem V0 (y:Option β):sT [] y = y:=rfl
theorem aEF (x:D) (l:List V) (y:Option β):sT (.d x :: l) y = sT l y:=rfl
theorem VC (i v:Nat) (l:List V) (y:Option β):sT (.own i v :: l) y = sT l y:=rfl
theorem VM (i v:Nat) (l:List V) (y:Option β):sT (.ptr i v :: l) y = sT l y:=rfl
theorem aCZ (l:List V) (y:Option β):sT (.nil :: l) y = sT l y:=rfl
section
variable (keep:List Nat)
def U5 (id:Nat) (b:Option aL) (k:V→Option β):Option β:=match b with
 | some (.mp _ _)=>kW keep id (k (.mp id)) (k .any)
 | some (.fmp ek m)=>k (.d (.mp ek m))
 | _=>k .any
theorem aB6 (id:Nat):vN keep bl (.mp id) k = dK bl id fun b=>U5 keep id b k:=by
 unfold vN dK U5 kW
 simp only [EH,OC,s8]
 generalize lk bl none id = b
 cases b with
 | none=>rfl
 | some b=>cases b <;> first | rfl | (simp only; cases h:keep.contains id <;> simp)
theorem Z6 (id ek:Nat) (m:List (Int × ML)):U5 keep id (some (.mp ek m)) k = kW keep id (k (.mp id)) (k .any):=rfl
theorem aA7 (id:Nat) (cs:List V) (k:List V→Option β):wV keep bl (.mp id :: cs) k = vN keep bl (.mp id) fun v=>wV keep bl cs fun l=>k (v :: l):=by simp only [yW]; rfl
theorem aAX (ek:Nat) (m:List (Int × ML)) (k:Option aL→Option β):AE keep bl (some (.mp ek m)) k = k (some (.mp ek m)):=rfl
end
theorem aGj (i:Nat) (k:List Nat→Option β):B4 (.mp i) k = k [i]:=rfl
end
end Vm
end Go.Proofs.Ytiimibimkpimbaa
set_option linter.unusedVariables false
set_option linter.unusedSimpArgs false
namespace Go.Proofs.Ytiimibimkpimbaa
namespace Vm
open Go.RowKit
abbrev MI:=List (Int × Int)
def mI (m:MI):List (Int × ML):=m.map fun p=>(p.1,ML.i p.2)
def eI:Option MI→D
 | none=>.mp 2 []
 | some m=>.mp 0 (mI m)
def T0 (k:Int) (z:Int):Option MI→Int
 | none=>z
 | some m=>fV k z m
theorem aEu (k:Int) (b:Int):∀ m:MI,rL k (ML.i b) (mI m) = mI (rL k b m)
 | []=>rfl
 | y :: r=>by
  show (if k < y.1 then _ else _) = mI (if k < y.1 then _ else _)
  split
  ·rfl
  ·show (y.1,ML.i y.2) :: rL k (.i b) (mI r) = (y.1,ML.i y.2) :: mI (rL k b r)
   rw [aEu k b r]
theorem aIE (k:Int) (m:MI):vJ k (mI m) = mI (vJ k m):=by
 unfold vJ mI
 rw [List.filter_map]
 rfl
theorem aJL (k:Int) (b:Int) (m:MI):fI k (ML.i b) (mI m) = mI (fI k b m):=by
 unfold fI
 rw [aIE,aEu]
theorem aB3 (k:Int) (z:Int) (m:MI):fV k (ML.i z) (mI m) = .i (fV k z m):=by
 unfold fV mI
 rw [List.find?_map]
 have e:(fun p:Int × ML=>decide (p.1 = k)) ∘ (fun p:Int × Int=>(p.1,ML.i p.2)) = fun p:Int × Int=>decide (p.1 = k):=rfl
 rw [e]
 cases m.find? fun p=>decide (p.1 = k) <;> rfl
theorem aIX (m:MI):(mI m).length = m.length:=List.length_map ..
section
variable {β:Type} {T:vF} {d:Nat} {fr:List (Nat × V)} {bl:List (Nat × Option aL)} {k:V→Option β} {kw:V→List (Nat × Option aL)→Option β}
theorem U4:tT T d (.mkmap 0) fr bl k kw = dK bl d fun b=>jC b (kw (.mp d) [(d,some (.mp 0 (mI [])))]):=OR 0
def PB (n:Int) (b:Int) (id:Nat) (y:Option aL) (kw:V→List (Nat × Option aL)→Option β):Option β:=match y with
 | some (.mp 0 l)=>if l.length < 1000000000000 then kw .any [(id,some (.mp 0 (fI n (.i b) l)))] else none
 | _=>none
theorem XJ (id:Nat) (n b:Int):aBR 0 (.mp id) (.d (.int .i64 n)) (.d (.int .i64 b)) bl k kw = if dY n then (if dY b then dK bl id fun y=>PB n b id y kw else none) else none:=by
 unfold aBR
 simp only [FL,aBz]
 by_cases h:dY n
 ·rw [if_pos h,if_pos h]
  by_cases h2:dY b
  ·rw [if_pos h2,if_pos h2]
   unfold dK
   simp only
   cases lk bl none id with
   | none=>rfl
   | some y =>
    cases y with
    | mp ek l =>
     simp only [ML.kind,true_and]
     by_cases e:ek = 0
     ·subst e
      simp only [true_and,PB]
      split <;> rfl
     ·rw [if_neg (fun q=>e q.1)]
      match ek,e with
      | 0,e=>exact absurd rfl e
      | _ + 1,_=>rfl
    | _=>rfl
  ·rw [if_neg h2,if_neg h2]
   rfl
 ·rw [if_neg h,if_neg h]
  rfl
theorem aAi (n b:Int) (id:Nat) (m:MI):PB n b id (some (.mp 0 (mI m))) kw = if m.length < 1000000000000 then kw .any [(id,some (.mp 0 (mI (fI n b m))))] else none:=by
 unfold PB
 simp only [aIX,aJL]
def aDR (z:Int) (n:Int) (y:Option aL) (k:V→Option β):Option β:=match y with
 | some (.mp ek l)=>if l.isEmpty = true ∨ 0 = ek then k (.d (fV n (.i z) l).d) else none
 | some (.fmp ek l)=>if l.isEmpty = true ∨ 0 = ek then k (.d (fV n (.i z) l).d) else none
 | _=>none
theorem WX (z:Int) (id:Nat) (n:Int):H5 (.i z) (.mp id) (.d (.int .i64 n)) bl k = if dY n then dK bl id fun y=>aDR z n y k else none:=by
 unfold H5
 simp only [FL,MS]
 by_cases h:dY n
 ·rw [if_pos h,if_pos h]
  unfold dK
  cases lk bl none id with
  | none=>rfl
  | some y=>cases y <;> rfl
 ·rw [if_neg h,if_neg h]
  cases lk bl none id with
  | none=>rfl
  | some y=>cases y <;> rfl
theorem aBp (z:Int) (n:Int) (m:MI):aDR z n (some (.mp 0 (mI m))) k = k (.d (.int .i64 (fV n z m))):=by
 show (if (mI m).isEmpty = true ∨ (0:Nat) = 0 then k (.d (fV n (.i z) (mI m)).d) else none) = _
 rw [if_pos (.inr rfl),aB3]
 rfl
theorem T2 (z:Int) (n:Int) (m:MI):H5 (.i z) (.d (.mp 0 (mI m))) (.d (.int .i64 n)) bl k = if dY n then k (.d (.int .i64 (fV n z m))) else none:=by
 unfold H5
 simp only [FL,MS]
 by_cases h:dY n
 ·rw [if_pos h,if_pos h]
  show (if (mI m).isEmpty = true ∨ (0:Nat) = 0 then k (.d (fV n (.i z) (mI m)).d) else none) = _
  rw [if_pos (.inr rfl),aB3]
  rfl
 ·rw [if_neg h,if_neg h]
theorem aDr (z:Int) (n:Int) (x:Option MI):H5 (.i z) (.d (eI x)) (.d (.int .i64 n)) bl k = if dY n then k (.d (.int .i64 (T0 n z x))) else none:=by
 cases x with
 | none =>
  unfold H5
  simp only [FL,MS,eI]
  by_cases h:dY n
  ·rw [if_pos h,if_pos h]; rfl
  ·rw [if_neg h,if_neg h]
 | some m=>exact T2 z n m
theorem XY (op:jB) (m:dL) (k:List Nat→Option β) (h1:op.new = false) (h2:op.peeks = [m]) (h3:op.deeps = []):GJ d op fr bl k = dX fr m fun v=>B4 v k:=by
 unfold GJ dX B4
 rw [h1,h2,h3]
 simp
theorem aD0 (z:ML) (m a:dL) (k:List Nat→Option β):GJ d (.mget z m a) fr bl k = dX fr m fun v=>B4 v k:=XY _ _ _ rfl rfl rfl
theorem aCP (e:Nat) (m a x:dL) (k:List Nat→Option β):GJ d (.mput e m a x) fr bl k = dX fr m fun v=>B4 v k:=XY _ _ _ rfl rfl rfl
theorem V8 (off id i:Nat) (c:V) (cs:List V):oJ 1 off id (.mp i) (some (.box (c :: cs))) kw = EI (c :: cs) off (.mp i) fun l=>kw .any [(id,some (.box l))]:=HN off id _ c cs rfl rfl
theorem aAC (id:Nat) (cs:List V) (kk:List D→List (Nat × Option aL)→Option β):rB bl (.mp id :: cs) kk = d1K (.mp id) bl fun x g=>rB bl cs fun ds f=>kk (x :: ds) (g ++ f):=rfl
theorem XP:tT T d (.mkmap 3) fr bl k kw = dK bl d fun b=>jC b (kw (.mp d) [(d,some (.mp 3 (mB [])))]):=OR 3
def B8:List V→Option Int
 | [.d (.int .i64 a),.d (.int .i64 b)]=>if dY a ∧ dY b then some (fC a b) else none
 | _=>none
theorem NU (cs:List V):tZ (.agg cs) = B8 cs:=by
 unfold tZ B8
 split
 ·rename_i a b heq
  cases heq
  rfl
 ·rename_i hn
  split
  ·rename_i a b
   exact absurd rfl (hn a b)
  ·rfl
def HL (n:Int) (b:Bool) (id:Nat) (y:Option aL) (kw:V→List (Nat × Option aL)→Option β):Option β:=match y with
 | some (.mp 3 l)=>if l.length < 1000000000000 then kw .any [(id,some (.mp 3 (fI n (.b b) l)))] else none
 | _=>none
def LI (n:Int) (y:Option aL) (k:V→Option β):Option β:=match y with
 | some (.mp 3 l)=>k (.d (fV n (.b false) l).d)
 | _=>none
def PJ (m a x:V) (bl:List (Nat × Option aL)) (k:V→Option β) (kw:V→List (Nat × Option aL)→Option β):Option β:=yS (match m,tZ a,SD x with
  | .mp id,some n,some x=>match lk bl none id with
   | some (.mp 3 l)=>if l.length < 1000000000000 then some (.any,[(id,some (.mp 3 (fI n (.b x) l)))]) else none
   | _=>none
  | _,_,_=>none) k kw
def QO (m a:V) (bl:List (Nat × Option aL)) (k:V→Option β):Option β:=yS (match m,tZ a with
  | .mp id,some n=>match lk bl none id with
   | some (.mp 3 l)=>some (.d (fV n (.b false) l).d,[])
   | _=>none
  | _,_=>none) k fun _ _=>none
theorem aBy (m a x:dL):tT T d (.mputP m a x) fr bl k kw = dX fr m fun mv=>dX fr a fun av=>dX fr x fun xv=>PJ mv av xv bl k kw:=by
 rw [k7]
 rfl
theorem Z5 (m a:dL):tT T d (.mgetP m a) fr bl k kw = dX fr m fun mv=>dX fr a fun av=>QO mv av bl k:=by
 rw [k7]
 show yS (match cU (lk fr .any) m,tZ (cU (lk fr .any) a) with
  | .mp id,some n=>match lk bl none id with
   | some (.mp 3 l)=>some (.d (fV n (.b false) l).d,[])
   | _=>none
  | _,_=>none) k kw = yS (match cU (lk fr .any) m,tZ (cU (lk fr .any) a) with
  | .mp id,some n=>match lk bl none id with
   | some (.mp 3 l)=>some (.d (fV n (.b false) l).d,[])
   | _=>none
  | _,_=>none) k fun _ _=>none
 split
 ·split <;> rfl
 ·rfl
def EQ (x y:D) (f:Int→Option β):Option β:=match x,y with
 | .int .i64 a,.int .i64 b=>if dY a then (if dY b then f (fC a b) else none) else none
 | _,_=>none
theorem aBW (a b:Int) (f:Int→Option β):EQ (.int .i64 a) (.int .i64 b) f = if dY a then (if dY b then f (fC a b) else none) else none:=rfl
theorem Z8 (x y:D) (f:Int→Option β):(B8 [.d x,.d y]).bind f = EQ x y f:=by
 unfold B8 EQ
 split
 ·rename_i a b heq
  cases heq
  dsimp only
  by_cases h1:dY a
  ·by_cases h2:dY b
   ·rw [if_pos ⟨h1,h2⟩,if_pos h1,if_pos h2]; rfl
   ·rw [if_neg (fun q=>h2 q.2),if_pos h1,if_neg h2]; rfl
  ·rw [if_neg (fun q=>h1 q.1),if_neg h1]; rfl
 ·rename_i hn
  split
  ·rename_i a b
   exact absurd rfl (hn a b)
  ·rfl
theorem YM (ds:List D) (f:Int→Option β):(B8 (bQ ds)).bind f = iF ds 0 fun x=>iF ds 1 fun y=>tL ds 2 (EQ x y f):=by
 match ds with
 | []=>rfl
 | [x] =>
  have e:B8 (bQ [x]) = none:=by
   unfold B8
   split
   ·rename_i heq
    simp [bQ] at heq
   ·rfl
  show (B8 (bQ [x])).bind f = none
  rw [e]
  rfl
 | [x,y]=>exact Z8 x y f
 | x :: y :: z :: r =>
  have e:B8 (bQ (x :: y :: z :: r)) = none:=by
   unfold B8
   split
   ·rename_i heq
    simp [bQ] at heq
   ·rfl
  show (B8 (bQ (x :: y :: z :: r))).bind f = (if (x :: y :: z :: r).length = 2 then EQ x y f else none)
  rw [e,if_neg (by simp)]
  rfl
theorem UB (id:Nat) (a:V):QO (.mp id) a bl k = (tZ a).bind fun n=>dK bl id fun y=>LI n y k:=by
 unfold QO dK
 cases tZ a with
 | none=>rfl
 | some n =>
  show yS (match lk bl none id with
   | some (.mp 3 l)=>some (.d (fV n (.b false) l).d,[])
   | _=>none) k (fun _ _=>none) = LI n (lk bl none id) k
  unfold LI
  split <;> rfl
theorem RD (id:Nat) (a:V) (b:Bool):PJ (.mp id) a (.d (.bool b)) bl k kw = (tZ a).bind fun n=>dK bl id fun y=>HL n b id y kw:=by
 unfold PJ dK
 cases tZ a with
 | none=>rfl
 | some n =>
  show yS (match lk bl none id with
   | some (.mp 3 l)=>if l.length < 1000000000000 then some (.any,[(id,some (.mp 3 (fI n (.b b) l)))]) else none
   | _=>none) k kw = HL n b id (lk bl none id) kw
  unfold HL
  split
  ·split <;> rfl
  ·rfl
theorem aBd (id:Nat) (ds:List D):QO (.mp id) (n9 ds) bl k = iF ds 0 fun x=>iF ds 1 fun y=>tL ds 2 (EQ x y fun n=>dK bl id fun z=>LI n z k):=by
 rw [UB]
 show (tZ (.agg (bQ ds))).bind _ = _
 rw [NU,YM]
theorem aA2 (id:Nat) (ds:List D) (b:Bool):PJ (.mp id) (n9 ds) (.d (.bool b)) bl k kw = iF ds 0 fun x=>iF ds 1 fun y=>tL ds 2 (EQ x y fun n=>dK bl id fun z=>HL n b id z kw):=by
 rw [RD]
 show (tZ (.agg (bQ ds))).bind _ = _
 rw [NU,YM]
theorem aAT (n:Int) (b:Bool) (id:Nat) (m:MB):HL n b id (some (.mp 3 (mB m))) kw = if m.length < 1000000000000 then kw .any [(id,some (.mp 3 (mB (fI n b m))))] else none:=by
 unfold HL
 simp only [aIN,aIS]
theorem ZN (n:Int) (m:MB):LI n (some (.mp 3 (mB m))) k = k (.d (.bool (fV n false m))):=by
 show k (.d (fV n (.b false) (mB m)).d) = _
 rw [aJl]
 rfl
end
end Vm
end Go.Proofs.Ytiimibimkpimbaa
set_option linter.unusedVariables false
set_option linter.unusedSimpArgs false
namespace Go.Proofs.Ytiimibimkpimbaa
namespace Vm
open Go.RowKit
section
variable {β:Type} {T:vF} {d:Nat} {fr:List (Nat × V)} {bl:List (Nat × Option aL)} {k:V→Option β} {kw:V→List (Nat × Option aL)→Option β}
end
end Vm
end Go.Proofs.Ytiimibimkpimbaa
