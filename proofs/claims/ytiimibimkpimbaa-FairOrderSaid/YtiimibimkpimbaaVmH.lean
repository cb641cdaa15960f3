/- A map that is laid and ranged over, each entry written into a row of the call's own: in whatever order. The small machine, read from the front: a range over a map that is laid. A range over a map keyed by numbers, each round of which is code of the small machine: in whatever order. The small machine, read from the front: maps of bools keyed by numbers. The small machine, read from the front: maps of numbers keyed by numbers. 'slices.Sorted(maps.Keys(m))' as one piece: what it does to the state. -/
import Derived.Test.YtiimibimkpimbaaVmD
import Derived.Maps.RangeWalk
import Derived.WalkArith
import Derived.Test.YtiimibimkpimbaaVmF
import Derived.Laws.IdiomRangeMap
set_option linter.unusedVariables false
set_option linter.unusedSimpArgs false
namespace Go.Proofs.Ytiimibimkpimbaa
namespace Vm
open Go.RowKit Go.Maps
section
variable {P:Program} {nt:Nat} {w0:fD} {w w' : World} {h0 h:Hp} {fr:Nat→V} {bl:Nat→Option aK} {a:Act} {hd:Nat→Value}
structure aAK (w0:fD) (h:Hp) (bl:Nat→Option aK) (hd:Nat→Value) (g:Nat):Prop where
 own:w0.own g
 out:h g = none
 off:∀ id b,bl id = some b→b.live = true→gR (hd id) ≠ some g
theorem aAK.new (r:Rl nt w0 h0 fr bl a w h hd) {g:Nat} (hg:w.heap.size ≤ g):aAK w0 h bl hd g where
 own:=.inl (Nat.le_trans r.below.size hg)
 out:=DJ r.hle hg
 off:=fun id b hb hl q=>by have:=((r.blk id b hb).num hl q).2.1; omega
inductive aMh where
 | vm (so:bK)
 | ins (k t:Nat)
structure aIn where
 it:Nat
 nx:Nat
 ok:Nat
 en:Nat
 k1:Nat
 v1:Nat
 kk:Nat
 vv:Nat
 d1:Nat
 d2:Nat
 d3:Nat
 dc:Nat
 da:Nat
 out:Nat
def aIn.slots (L:aIn):List Nat:=[L.nx,L.ok,L.en,L.k1,L.v1,L.kk,L.vv,L.d1,L.d2,L.d3,L.dc,L.da]
def aGQ {α:Type} (Q:α→Prop):List α→Prop
 | []=>True
 | x :: l=>Q x ∧ aGQ Q l
theorem aGQ.all {α:Type} {Q:α→Prop}:∀ {l:List α},aGQ Q l→∀ x ∈ l,Q x
 | [],_,x,h=>by simp at h
 | y :: l,q,x,h=>by
  rcases List.mem_cons.1 h with rfl | h
  ·exact q.1
  ·exact aGQ.all q.2 x h
end
end Vm
end Go.Proofs.Ytiimibimkpimbaa
set_option linter.unusedVariables false
set_option linter.unusedSimpArgs false
namespace Go.Proofs.Ytiimibimkpimbaa
namespace Vm
open Go.RowKit
section
variable {β:Type} {T:u5} {fr:List (Nat × V)} {bl:List (Nat × Option aK)}
end
end Vm
end Go.Proofs.Ytiimibimkpimbaa
set_option linter.unusedVariables false
set_option linter.unusedSimpArgs false
namespace Go.Proofs.Ytiimibimkpimbaa
namespace Vm
open Go.RowKit Go.Maps
def fD.now (b:fD) (w:World) (rr it:Nat) (itv:Value):fD:={ w with L:=fun g=>b.own g ∧ g ≠ rr ∧ g < w.heap.size,F:=fun i=>if i = it then some itv else none,O:=b.O }
section
variable {P:Program} {nt:Nat} {w0:fD} {w w' : World} {h0 h h' : Hp} {fr fr' : Nat→V} {bl bl' : Nat→Option aK} {a a' : Act} {hd hd' : Nat→Value} {rr it:Nat} {itv:Value}
theorem QA {b:fD} (hs:b.heap.size ≤ w.heap.size) {g:Nat} (h:(b.now w rr it itv).own g):b.own g:=by
 rcases h with h | h
 ·exact .inl (Nat.le_trans hs h)
 ·exact h.1
theorem WW {b:fD} (hlt:rr < w.heap.size):¬ (b.now w rr it itv).own rr:=by
 rintro (h | h)
 ·exact absurd h (Nat.not_le_of_lt hlt)
 ·exact h.2.1 rfl
theorem BR.rebase {b0 b1:fD} {id:Nat} {b:aK} (hown:b.live = true→∀ g,gR (hd id) = some g→b0.own g) (hO:b0.O = b1.O) (r:BR b1 w h hd bl id b):BR b0 w h hd bl id b:=by
 cases b with
 | box cs =>
  obtain ⟨g,arr,e,h1,h2,h3⟩:=r
  exact ⟨g,arr,e,h1,hown rfl g (by rw [h1]; rfl),h3⟩
 | rows ver e size rows =>
  obtain ⟨h1,h2,h3,h4⟩:=r
  exact ⟨h1,h2,h3,fun g hg=>⟨(h4 g hg).1,hown rfl g hg⟩⟩
 | froz ver rows=>exact r
 | fbox cs=>exact r
 | mp ek m =>
  obtain ⟨g,h1,h2,h3⟩:=r
  exact ⟨g,h1,hown rfl g (by rw [h1]; rfl),h3⟩
 | fmp ek m=>exact r
 | outer cs =>
  intro j x hx
  rw [hO]
  exact r j x hx
theorem Rl.now (r:Rl nt w0 h0 fr bl a w h hd) (hS:aAK w0 h bl hd rr) (hit:a.tmps.getD it undef = itv):Rl nt (w0.now w rr it itv) h fr bl a w h hd where
 tmps:=r.tmps
 defers:=r.defers
 fixed:=fun t v e=>by
  simp only [fD.now] at e
  split at e
  ·rename_i q; cases e; rw [q]; exact hit
  ·cases e
 below:=wX.refl _ _
 hle:=r.hle
 h0le:=Hp.le.refl _
 hbase:=fun _ _=>rfl
 frame:=r.frame
 blk:=fun id b hb=>BR.rebase (b1:=w0) (fun hl g hg=>by
  obtain ⟨q1,q2,_⟩:=(r.blk id b hb).num hl hg
  exact .inr ⟨q1,fun e=>hS.off id b hb hl (e ▸ hg),q2⟩) rfl (r.blk id b hb)
 sep:=r.sep
theorem Rl.back (hF:∀ t,w0.F t = none) (r:Rl nt w0 h0 fr bl a w h hd) (r' : Rl nt (w0.now w rr it itv) h fr' bl' a' w' h' hd'):Rl nt w0 h0 fr' bl' a' w' h' hd' where
 tmps:=r'.tmps
 defers:=r'.defers
 fixed:=fun t v e=>by rw [hF t] at e; cases e
 below:=r.below.trans ⟨r'.below.os,r'.below.tape,r'.below.output,r'.below.size,fun k hk=>r'.below.block k fun q=>hk (QA r.below.size q)⟩
 hle:=r'.hle
 h0le:=r.h0le.trans r'.h0le
 hbase:=fun b hb=>(r'.hbase b fun q=>hb (QA r.below.size q)).trans (r.hbase b hb)
 frame:=r'.frame
 blk:=fun id b hb=>BR.rebase (b1:=w0.now w rr it itv) (fun hl g hg=>QA r.below.size ((r'.blk id b hb).num hl hg).1) rfl (r'.blk id b hb)
 sep:=r'.sep
theorem aAK.back (hS:aAK w0 h bl hd rr) (hlt:rr < w.heap.size) (r' : Rl nt (w0.now w rr it itv) h fr' bl' a' w' h' hd'):aAK w0 h' bl' hd' rr ∧ w'.heap[rr]? = w.heap[rr]? :=
 ⟨⟨hS.own,(r'.hbase rr (WW hlt)).trans hS.out,fun id b hb hl q=>WW hlt ((r'.blk id b hb).num hl q).1⟩,r'.below.block rr (WW hlt)⟩
structure XY where
 it:Nat
 nx:Nat
 ok:Nat
 en:Nat
 k1:Nat
 kk:Nat
def XY.slots (L:XY):List Nat:=[L.nx,L.ok,L.en,L.k1,L.kk]
structure aMm (L:XY) (oN oX e0 e1 e2:Oper):Prop where
 hN:oN.guard = none ∧ oN.op = .next (.tmp L.it) false ∧ oN.dst = some L.nx
 hX:oX.guard = none ∧ oX.op = .extract (.tmp L.nx) 0 ∧ oX.dst = some L.ok
 h0:e0.guard = none ∧ e0.op = .entry (.tmp L.it) ∧ e0.dst = some L.en
 h1:e1.guard = none ∧ e1.op = .extract (.tmp L.en) 0 ∧ e1.dst = some L.k1
 h2:e2.guard = none ∧ (e2.op = .assign (.tmp L.k1) ∨ e2.op = .move (.tmp L.k1)) ∧ e2.dst = some L.kk
def aKx (l:List (Int × ML)) (k:Int):Bool:=l.any fun p=>decide (p.1 = k)
structure aMe (ek0:Nat) (C:Nat→List D→Option D) (n m:Nat) (L:XY) (sc:aT) (s s2:St):Prop where
 ex:∃ (ek:Nat) (l:List (Int × ML)) (Inv:(Int→Bool)→(Nat→V)→(Nat→Option aK)→Prop),(frT m s).get m = .d (.mp ek l) ∧ (ek = ek0 ∨ ek = 2) ∧
  (∀ left fr bl fr',Inv left fr bl→(∀ t,t ∉ L.it :: L.slots→fr' t = fr t)→Inv left fr' bl) ∧
  (∀ left (s:St) (k:Int),dO k→Inv left s.get s.blk→left k = true→s.get L.kk = .d (.int .i64 k)→∃ s',bZ C n sc s = some (.normal,s') ∧ Inv (fun z=>left z && !decide (z = k)) s'.get s'.blk) ∧
  Inv (fun k=>aKx l k) (frT m s).get (frT m s).blk ∧
  ∀ s' : St,Inv (fun _=>false) s'.get s'.blk→(∀ t,s2.get t = .any ∨ s2.get t = s'.get t) ∧ s2.blk = s'.blk
end
section
variable {P:Program} {nt:Nat}
theorem aF.cond {co:Operand} {o:dH} {c d:Code} {x y:aT} (h0:iY co = some o) (h1:aF P nt c x) (h2:aF P nt d y):aF P nt (.cond co c d) (.cond o x y):=by
 intro C hC n w0 h0' s s' ex a w h hd Q hF he r hQ
 have hc:=bW r.frame h0
 simp only [bZ] at he
 split at he
 ·rename_i hb
  rw [hb] at hc
  exact wp_cond_true (o9 hc) (h1 C hC n w0 h0' s s' ex a w h hd Q hF he r hQ)
 ·rename_i hb
  rw [hb] at hc
  exact wp_cond_false (o9 hc) (h2 C hC n w0 h0' s s' ex a w h hd Q hF he r hQ)
 ·cases he
theorem aF.block {id:Nat} {c:Code} {x:aT} (h1:aF P nt c x):aF P nt (.block id c) (.block id x):=by
 intro C hC n w0 h0 s s' ex a w h hd Q hF he r hQ
 refine wp_block ?_
 simp only [bZ] at he
 split at he
 ·rename_i id'' s1 he1
  refine h1 C hC n w0 h0 s s1 (.exit id'') a w h hd _ hF he1 r fun a' w' h' hd' r'=>?_
  simp only [Ex.go,Exit.inBlock]
  split at he
  ·rename_i hid
   cases he
   rw [if_pos hid]
   exact hQ _ _ _ _ r'
  ·rename_i hid
   cases he
   rw [if_neg hid]
   exact hQ _ _ _ _ r'
 ·rename_i hne
  refine h1 C hC n w0 h0 s s' ex a w h hd _ hF he r fun a' w' h' hd' r'=>?_
  cases ex with
  | normal=>exact hQ _ _ _ _ r'
  | exit id=>exact absurd he (hne _ _)
  | ret=>exact hQ _ _ _ _ r'
theorem aF.loop {c:Code} {x:aT} (h1:aF P nt c x):aF P nt (.loop c) (.loop x):=by
 intro C hC n w0 h0 s s' ex a w h hd Q hF he r hQ
 simp only [bZ] at he
 refine RT (fun k a w=>∃ s h hd,qW (bZ C n x) k s = some (ex,s') ∧ Rl nt w0 h0 s.get s.blk a w h hd) (fun a w ⟨s,h,hd,q,_⟩=>by simp [qW] at q) ?_ n a w ⟨s,h,hd,he,r⟩
 rintro k a w ⟨s,h,hd,q,r⟩
 simp only [qW] at q
 split at q
 ·rename_i s1 he1
  exact h1 C hC n w0 h0 s s1 .normal a w h hd _ hF he1 r fun a' w' h' hd' r'=>⟨s1,h',hd',q,r'⟩
 ·rename_i hne
  refine h1 C hC n w0 h0 s s' ex a w h hd _ hF q r fun a' w' h' hd' r'=>?_
  cases ex with
  | normal=>exact absurd q (hne _)
  | exit id=>exact hQ _ _ _ _ r'
  | ret=>exact hQ _ _ _ _ r'
end
end Vm
end Go.Proofs.Ytiimibimkpimbaa
set_option linter.unusedVariables false
set_option linter.unusedSimpArgs false
namespace Go.Proofs.Ytiimibimkpimbaa
namespace Vm
open Go.RowKit
abbrev MB:=List (Int × Bool)
def mB (m:MB):List (Int × ML):=m.map fun p=>(p.1,ML.b p.2)
theorem aEM (k:Int) (b:Bool):∀ m:MB,qV k (ML.b b) (mB m) = mB (qV k b m)
 | []=>rfl
 | y :: r=>by
  show (if k < y.1 then _ else _) = mB (if k < y.1 then _ else _)
  split
  ·rfl
  ·show (y.1,ML.b y.2) :: qV k (.b b) (mB r) = (y.1,ML.b y.2) :: mB (qV k b r)
   rw [aEM k b r]
theorem aJR (k:Int) (m:MB):vC k (mB m) = mB (vC k m):=by
 unfold vC mB
 rw [List.filter_map]
 rfl
theorem aJc (k:Int) (b:Bool) (m:MB):fL k (ML.b b) (mB m) = mB (fL k b m):=by
 unfold fL
 rw [aJR,aEM]
theorem aIC (k:Int) (z:Bool) (m:MB):fT k (ML.b z) (mB m) = .b (fT k z m):=by
 unfold fT mB
 rw [List.find?_map]
 have e:(fun p:Int × ML=>decide (p.1 = k)) ∘ (fun p:Int × Bool=>(p.1,ML.b p.2)) = fun p:Int × Bool=>decide (p.1 = k):=rfl
 rw [e]
 cases m.find? fun p=>decide (p.1 = k) <;> rfl
theorem aIS (m:MB):(mB m).length = m.length:=List.length_map ..
section
variable {β:Type} {T:u5} {d:Nat} {fr:List (Nat × V)} {bl:List (Nat × Option aK)} {k:V→Option β} {kw:V→List (Nat × Option aK)→Option β}
theorem NG (ek:Nat):tK T d (.mkmap ek) fr bl k kw = dG bl d fun b=>i8 b (kw (.mp d) [(d,some (.mp ek []))]):=by
 unfold tK dG
 simp only [eC]
 cases lk bl none d <;> rfl
def aCh (ek:Nat) (m a x:V) (bl:List (Nat × Option aK)) (k:V→Option β) (kw:V→List (Nat × Option aK)→Option β):Option β:=zW (match m,F9 a,aAx x with
  | .mp id,some n,some x=>match lk bl none id with
   | some (.mp ek' l)=>if x.kind = ek ∧ ek' = ek ∧ l.length < 1000000000000 then some (.any,[(id,some (.mp ek (fL n x l)))]) else none
   | _=>none
  | _,_,_=>none) k kw
theorem aDb (ek:Nat) (m a x:dH):tK T d (.mput ek m a x) fr bl k kw = dW fr m fun mv=>dW fr a fun av=>dW fr x fun xv=>aCh ek mv av xv bl k kw:=by
 rw [kM]
 rfl
def ID (z:ML) (m a:V) (bl:List (Nat × Option aK)) (k:V→Option β):Option β:=match MO (lk bl none) m,F9 a with
 | some (ek,l),some n=>if l.isEmpty = true ∨ z.kind = ek then k (.d (fT n z l).d) else none
 | _,_=>none
theorem aB5 (z:ML) (m a:dH):tK T d (.mget z m a) fr bl k kw = dW fr m fun mv=>dW fr a fun av=>ID z mv av bl k:=by
 unfold tK dW ID
 simp only [eC]
 cases MO (lk bl none) (cX (lk fr .any) m) with
 | none=>rfl
 | some p =>
  cases F9 (cX (lk fr .any) a) with
  | none=>rfl
  | some n =>
   obtain ⟨ek,l⟩:=p
   simp only
   by_cases h:l.isEmpty = true ∨ z.kind = ek
   ·rw [if_pos h,if_pos h]
   ·rw [if_neg h,if_neg h]
def d1M (id:Nat) (b:Option aK) (k:D→List (Nat × Option aK)→Option β):Option β:=match b with
 | some (.mp ek m)=>k (.mp ek m) [(id,some (.fmp ek m))]
 | some (.fmp ek m)=>k (.mp ek m) []
 | _=>none
theorem aIw (id ek:Nat) (m:List (Int × ML)) (k:D→List (Nat × Option aK)→Option β):d1M id (some (.mp ek m)) k = k (.mp ek m) [(id,some (.fmp ek m))]:=rfl
theorem aJM (id:Nat) (k:D→List (Nat × Option aK)→Option β):d1K (.mp id) bl k = dG bl id fun b=>d1M id b k:=by
 unfold d1K dG d1M
 simp only [lQ,B4,rZ,DM]
 generalize lk bl none id = b
 cases b with
 | none=>rfl
 | some b=>cases b <;> rfl
def sU:List V→Option β→Option β
 | [],y=>y
 | v :: l,y=>if v.noTup = true then sU l y else none
theorem NR (y:Option β):∀ l:List V,sU l y = if l.all V.noTup = true then y else none
 | []=>rfl
 | v :: l=>by
  by_cases h:v.noTup = true
  ·simp [sU,h,NR y l]
  ·simp [sU,h]
theorem aHf (dst:Option Nat) (slots:List Nat) (cs:List V) (v u:V) (l:List V) (k:List (Nat × V)→Option β):OM dst slots cs (v :: u :: l) k = sU (v :: u :: l) (k (I4 dst (.tup (v :: u :: l)) ++ slots.zip cs)):=by
 rw [KT,NR]
theorem UF (y:Option β):sU [] y = y:=rfl
theorem aBV (x:D) (l:List V) (y:Option β):sU (.d x :: l) y = sU l y:=rfl
theorem VA (i v:Nat) (l:List V) (y:Option β):sU (.own i v :: l) y = sU l y:=rfl
theorem V2 (i v:Nat) (l:List V) (y:Option β):sU (.ptr i v :: l) y = sU l y:=rfl
theorem aDW (l:List V) (y:Option β):sU (.nil :: l) y = sU l y:=rfl
section
variable (keep:List Nat)
def V6 (id:Nat) (b:Option aK) (k:V→Option β):Option β:=match b with
 | some (.mp _ _)=>kO keep id (k (.mp id)) (k .any)
 | some (.fmp ek m)=>k (.d (.mp ek m))
 | _=>k .any
theorem aC6 (id:Nat):vR keep bl (.mp id) k = dG bl id fun b=>V6 keep id b k:=by
 unfold vR dG V6 kO
 simp only [EF,OJ,s8]
 generalize lk bl none id = b
 cases b with
 | none=>rfl
 | some b=>cases b <;> first | rfl | (simp only; cases h:keep.contains id <;> simp)
theorem aAu (id ek:Nat) (m:List (Int × ML)):V6 keep id (some (.mp ek m)) k = kO keep id (k (.mp id)) (k .any):=rfl
theorem aBk (id:Nat) (cs:List V) (k:List V→Option β):wK keep bl (.mp id :: cs) k = vR keep bl (.mp id) fun v=>wK keep bl cs fun l=>k (v :: l):=by simp only [yL]; rfl
theorem aBK (ek:Nat) (m:List (Int × ML)) (k:Option aK→Option β):AM keep bl (some (.mp ek m)) k = k (some (.mp ek m)):=rfl
end
theorem aGh (i:Nat) (k:List Nat→Option β):CF (.mp i) k = k [i]:=rfl
end
end Vm
end Go.Proofs.Ytiimibimkpimbaa
set_option linter.unusedVariables false
set_option linter.unusedSimpArgs false
namespace Go.Proofs.Ytiimibimkpimbaa
namespace Vm
open Go.RowKit
abbrev MI:=List (Int × Int)
def mI (m:MI):List (Int × ML):=m.map fun p=>(p.1,ML.i p.2)
def eI:Option MI→D
 | none=>.mp 2 []
 | some m=>.mp 0 (mI m)
def R9 (k:Int) (z:Int):Option MI→Int
 | none=>z
 | some m=>fT k z m
theorem aC9 (k:Int) (b:Int):∀ m:MI,qV k (ML.i b) (mI m) = mI (qV k b m)
 | []=>rfl
 | y :: r=>by
  show (if k < y.1 then _ else _) = mI (if k < y.1 then _ else _)
  split
  ·rfl
  ·show (y.1,ML.i y.2) :: qV k (.i b) (mI r) = (y.1,ML.i y.2) :: mI (qV k b r)
   rw [aC9 k b r]
theorem aJv (k:Int) (m:MI):vC k (mI m) = mI (vC k m):=by
 unfold vC mI
 rw [List.filter_map]
 rfl
theorem aJK (k:Int) (b:Int) (m:MI):fL k (ML.i b) (mI m) = mI (fL k b m):=by
 unfold fL
 rw [aJv,aC9]
theorem aDY (k:Int) (z:Int) (m:MI):fT k (ML.i z) (mI m) = .i (fT k z m):=by
 unfold fT mI
 rw [List.find?_map]
 have e:(fun p:Int × ML=>decide (p.1 = k)) ∘ (fun p:Int × Int=>(p.1,ML.i p.2)) = fun p:Int × Int=>decide (p.1 = k):=rfl
 rw [e]
 cases m.find? fun p=>decide (p.1 = k) <;> rfl
theorem aJl (m:MI):(mI m).length = m.length:=List.length_map ..
section
variable {β:Type} {T:u5} {d:Nat} {fr:List (Nat × V)} {bl:List (Nat × Option aK)} {k:V→Option β} {kw:V→List (Nat × Option aK)→Option β}
theorem XF:tK T d (.mkmap 0) fr bl k kw = dG bl d fun b=>i8 b (kw (.mp d) [(d,some (.mp 0 (mI [])))]):=NG 0
def PR (n:Int) (b:Int) (id:Nat) (y:Option aK) (kw:V→List (Nat × Option aK)→Option β):Option β:=match y with
 | some (.mp 0 l)=>if l.length < 1000000000000 then kw .any [(id,some (.mp 0 (fL n (.i b) l)))] else none
 | _=>none
theorem XN (id:Nat) (n b:Int):aCh 0 (.mp id) (.d (.int .i64 n)) (.d (.int .i64 b)) bl k kw = if dO n then (if dO b then dG bl id fun y=>PR n b id y kw else none) else none:=by
 unfold aCh
 simp only [F9,aAx]
 by_cases h:dO n
 ·rw [if_pos h,if_pos h]
  by_cases h2:dO b
  ·rw [if_pos h2,if_pos h2]
   unfold dG
   simp only
   cases lk bl none id with
   | none=>rfl
   | some y =>
    cases y with
    | mp ek l =>
     simp only [ML.kind,true_and]
     by_cases e:ek = 0
     ·subst e
      simp only [true_and,PR]
      split <;> rfl
     ·rw [if_neg (fun q=>e q.1)]
      match ek,e with
      | 0,e=>exact absurd rfl e
      | _ + 1,_=>rfl
    | _=>rfl
  ·rw [if_neg h2,if_neg h2]
   rfl
 ·rw [if_neg h,if_neg h]
  rfl
theorem aA8 (n b:Int) (id:Nat) (m:MI):PR n b id (some (.mp 0 (mI m))) kw = if m.length < 1000000000000 then kw .any [(id,some (.mp 0 (mI (fL n b m))))] else none:=by
 unfold PR
 simp only [aJl,aJK]
def aDH (z:Int) (n:Int) (y:Option aK) (k:V→Option β):Option β:=match y with
 | some (.mp ek l)=>if l.isEmpty = true ∨ 0 = ek then k (.d (fT n (.i z) l).d) else none
 | some (.fmp ek l)=>if l.isEmpty = true ∨ 0 = ek then k (.d (fT n (.i z) l).d) else none
 | _=>none
theorem XM (z:Int) (id:Nat) (n:Int):ID (.i z) (.mp id) (.d (.int .i64 n)) bl k = if dO n then dG bl id fun y=>aDH z n y k else none:=by
 unfold ID
 simp only [F9,MO]
 by_cases h:dO n
 ·rw [if_pos h,if_pos h]
  unfold dG
  cases lk bl none id with
  | none=>rfl
  | some y=>cases y <;> rfl
 ·rw [if_neg h,if_neg h]
  cases lk bl none id with
  | none=>rfl
  | some y=>cases y <;> rfl
theorem aAL (z:Int) (n:Int) (m:MI):aDH z n (some (.mp 0 (mI m))) k = k (.d (.int .i64 (fT n z m))):=by
 show (if (mI m).isEmpty = true ∨ (0:Nat) = 0 then k (.d (fT n (.i z) (mI m)).d) else none) = _
 rw [if_pos (.inr rfl),aDY]
 rfl
theorem T5 (z:Int) (n:Int) (m:MI):ID (.i z) (.d (.mp 0 (mI m))) (.d (.int .i64 n)) bl k = if dO n then k (.d (.int .i64 (fT n z m))) else none:=by
 unfold ID
 simp only [F9,MO]
 by_cases h:dO n
 ·rw [if_pos h,if_pos h]
  show (if (mI m).isEmpty = true ∨ (0:Nat) = 0 then k (.d (fT n (.i z) (mI m)).d) else none) = _
  rw [if_pos (.inr rfl),aDY]
  rfl
 ·rw [if_neg h,if_neg h]
theorem aEA (z:Int) (n:Int) (x:Option MI):ID (.i z) (.d (eI x)) (.d (.int .i64 n)) bl k = if dO n then k (.d (.int .i64 (R9 n z x))) else none:=by
 cases x with
 | none =>
  unfold ID
  simp only [F9,MO,eI]
  by_cases h:dO n
  ·rw [if_pos h,if_pos h]; rfl
  ·rw [if_neg h,if_neg h]
 | some m=>exact T5 z n m
theorem YT (op:i7) (m:dH) (k:List Nat→Option β) (h1:op.new = false) (h2:op.peeks = [m]) (h3:op.deeps = []):GN d op fr bl k = dW fr m fun v=>CF v k:=by
 unfold GN dW CF
 rw [h1,h2,h3]
 simp
theorem aEG (z:ML) (m a:dH) (k:List Nat→Option β):GN d (.mget z m a) fr bl k = dW fr m fun v=>CF v k:=YT _ _ _ rfl rfl rfl
theorem aCd (e:Nat) (m a x:dH) (k:List Nat→Option β):GN d (.mput e m a x) fr bl k = dW fr m fun v=>CF v k:=YT _ _ _ rfl rfl rfl
theorem V8 (off id i:Nat) (c:V) (cs:List V):n8 1 off id (.mp i) (some (.box (c :: cs))) kw = EE (c :: cs) off (.mp i) fun l=>kw .any [(id,some (.box l))]:=G5 off id _ c cs rfl rfl
theorem aBl (id:Nat) (cs:List V) (kk:List D→List (Nat × Option aK)→Option β):qS bl (.mp id :: cs) kk = d1K (.mp id) bl fun x g=>qS bl cs fun ds f=>kk (x :: ds) (g ++ f):=rfl
theorem WU:tK T d (.mkmap 3) fr bl k kw = dG bl d fun b=>i8 b (kw (.mp d) [(d,some (.mp 3 (mB [])))]):=NG 3
def CY:List V→Option Int
 | [.d (.int .i64 a),.d (.int .i64 b)]=>if dO a ∧ dO b then some (fC a b) else none
 | _=>none
theorem OP (cs:List V):tQ (.agg cs) = CY cs:=by
 unfold tQ CY
 split
 ·rename_i a b heq
  cases heq
  rfl
 ·rename_i hn
  split
  ·rename_i a b
   exact absurd rfl (hn a b)
  ·rfl
def GY (n:Int) (b:Bool) (id:Nat) (y:Option aK) (kw:V→List (Nat × Option aK)→Option β):Option β:=match y with
 | some (.mp 3 l)=>if l.length < 1000000000000 then kw .any [(id,some (.mp 3 (fL n (.b b) l)))] else none
 | _=>none
def K3 (n:Int) (y:Option aK) (k:V→Option β):Option β:=match y with
 | some (.mp 3 l)=>k (.d (fT n (.b false) l).d)
 | _=>none
def QF (m a x:V) (bl:List (Nat × Option aK)) (k:V→Option β) (kw:V→List (Nat × Option aK)→Option β):Option β:=zW (match m,tQ a,UA x with
  | .mp id,some n,some x=>match lk bl none id with
   | some (.mp 3 l)=>if l.length < 1000000000000 then some (.any,[(id,some (.mp 3 (fL n (.b x) l)))]) else none
   | _=>none
  | _,_,_=>none) k kw
def PZ (m a:V) (bl:List (Nat × Option aK)) (k:V→Option β):Option β:=zW (match m,tQ a with
  | .mp id,some n=>match lk bl none id with
   | some (.mp 3 l)=>some (.d (fT n (.b false) l).d,[])
   | _=>none
  | _,_=>none) k fun _ _=>none
theorem aAv (m a x:dH):tK T d (.mputP m a x) fr bl k kw = dW fr m fun mv=>dW fr a fun av=>dW fr x fun xv=>QF mv av xv bl k kw:=by
 rw [kM]
 rfl
theorem ZT (m a:dH):tK T d (.mgetP m a) fr bl k kw = dW fr m fun mv=>dW fr a fun av=>PZ mv av bl k:=by
 rw [kM]
 show zW (match cX (lk fr .any) m,tQ (cX (lk fr .any) a) with
  | .mp id,some n=>match lk bl none id with
   | some (.mp 3 l)=>some (.d (fT n (.b false) l).d,[])
   | _=>none
  | _,_=>none) k kw = zW (match cX (lk fr .any) m,tQ (cX (lk fr .any) a) with
  | .mp id,some n=>match lk bl none id with
   | some (.mp 3 l)=>some (.d (fT n (.b false) l).d,[])
   | _=>none
  | _,_=>none) k fun _ _=>none
 split
 ·split <;> rfl
 ·rfl
def E1 (x y:D) (f:Int→Option β):Option β:=match x,y with
 | .int .i64 a,.int .i64 b=>if dO a then (if dO b then f (fC a b) else none) else none
 | _,_=>none
theorem aDI (a b:Int) (f:Int→Option β):E1 (.int .i64 a) (.int .i64 b) f = if dO a then (if dO b then f (fC a b) else none) else none:=rfl
theorem ZX (x y:D) (f:Int→Option β):(CY [.d x,.d y]).bind f = E1 x y f:=by
 unfold CY E1
 split
 ·rename_i a b heq
  cases heq
  dsimp only
  by_cases h1:dO a
  ·by_cases h2:dO b
   ·rw [if_pos ⟨h1,h2⟩,if_pos h1,if_pos h2]; rfl
   ·rw [if_neg (fun q=>h2 q.2),if_pos h1,if_neg h2]; rfl
  ·rw [if_neg (fun q=>h1 q.1),if_neg h1]; rfl
 ·rename_i hn
  split
  ·rename_i a b
   exact absurd rfl (hn a b)
  ·rfl
theorem YZ (ds:List D) (f:Int→Option β):(CY (bQ ds)).bind f = hU ds 0 fun x=>hU ds 1 fun y=>sL ds 2 (E1 x y f):=by
 match ds with
 | []=>rfl
 | [x] =>
  have e:CY (bQ [x]) = none:=by
   unfold CY
   split
   ·rename_i heq
    simp [bQ] at heq
   ·rfl
  show (CY (bQ [x])).bind f = none
  rw [e]
  rfl
 | [x,y]=>exact ZX x y f
 | x :: y :: z :: r =>
  have e:CY (bQ (x :: y :: z :: r)) = none:=by
   unfold CY
   split
   ·rename_i heq
    simp [bQ] at heq
   ·rfl
  show (CY (bQ (x :: y :: z :: r))).bind f = (if (x :: y :: z :: r).length = 2 then E1 x y f else none)
  rw [e,if_neg (by simp)]
  rfl
theorem R0 (id:Nat) (a:V):PZ (.mp id) a bl k = (tQ a).bind fun n=>dG bl id fun y=>K3 n y k:=by
 unfold PZ dG
 cases tQ a with
 | none=>rfl
 | some n =>
  show zW (match lk bl none id with
   | some (.mp 3 l)=>some (.d (fT n (.b false) l).d,[])
   | _=>none) k (fun _ _=>none) = K3 n (lk bl none id) k
  unfold K3
  split <;> rfl
theorem QS (id:Nat) (a:V) (b:Bool):QF (.mp id) a (.d (.bool b)) bl k kw = (tQ a).bind fun n=>dG bl id fun y=>GY n b id y kw:=by
 unfold QF dG
 cases tQ a with
 | none=>rfl
 | some n =>
  show zW (match lk bl none id with
   | some (.mp 3 l)=>if l.length < 1000000000000 then some (.any,[(id,some (.mp 3 (fL n (.b b) l)))]) else none
   | _=>none) k kw = GY n b id (lk bl none id) kw
  unfold GY
  split
  ·split <;> rfl
  ·rfl
theorem aAb (id:Nat) (ds:List D):PZ (.mp id) (nS ds) bl k = hU ds 0 fun x=>hU ds 1 fun y=>sL ds 2 (E1 x y fun n=>dG bl id fun z=>K3 n z k):=by
 rw [R0]
 show (tQ (.agg (bQ ds))).bind _ = _
 rw [OP,YZ]
theorem aBt (id:Nat) (ds:List D) (b:Bool):QF (.mp id) (nS ds) (.d (.bool b)) bl k kw = hU ds 0 fun x=>hU ds 1 fun y=>sL ds 2 (E1 x y fun n=>dG bl id fun z=>GY n b id z kw):=by
 rw [QS]
 show (tQ (.agg (bQ ds))).bind _ = _
 rw [OP,YZ]
theorem aBA (n:Int) (b:Bool) (id:Nat) (m:MB):GY n b id (some (.mp 3 (mB m))) kw = if m.length < 1000000000000 then kw .any [(id,some (.mp 3 (mB (fL n b m))))] else none:=by
 unfold GY
 simp only [aIS,aJc]
theorem aAe (n:Int) (m:MB):K3 n (some (.mp 3 (mB m))) k = k (.d (.bool (fT n false m))):=by
 show k (.d (fT n (.b false) (mB m)).d) = _
 rw [aIC]
 rfl
end
end Vm
end Go.Proofs.Ytiimibimkpimbaa
set_option linter.unusedVariables false
set_option linter.unusedSimpArgs false
namespace Go.Proofs.Ytiimibimkpimbaa
namespace Vm
open Go.RowKit
section
variable {β:Type} {T:u5} {d:Nat} {fr:List (Nat × V)} {bl:List (Nat × Option aK)} {k:V→Option β} {kw:V→List (Nat × Option aK)→Option β}
end
end Vm
end Go.Proofs.Ytiimibimkpimbaa
