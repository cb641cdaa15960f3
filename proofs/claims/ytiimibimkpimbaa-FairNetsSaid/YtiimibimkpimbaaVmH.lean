/- A map that is laid and ranged over, each entry written into a row of the call's own: in whatever order. The small machine, read from the front: a range over a map that is laid. A range over a map keyed by numbers, each round of which is code of the small machine: in whatever order. The small machine, read from the front: maps of bools keyed by numbers. The small machine, read from the front: maps of numbers keyed by numbers. 'slices.Sorted(maps.Keys(m))' as one piece: what it does to the state. -/
import Derived.Test.YtiimibimkpimbaaVmD
import Derived.Maps.RangeWalk
import Derived.WalkArith
import Derived.Test.YtiimibimkpimbaaVmF
import Derived.Laws.IdiomRangeMap
set_option linter.unusedVariables false
set_option linter.unusedSimpArgs false
namespace Go.Proofs.Ytiimibimkpimbaa
namespace Vm
open Go.RowKit Go.Maps
section
variable {P:Program} {nt:Nat} {w0:fJ} {w w' : World} {h0 h:Hp} {fr:Nat→V} {bl:Nat→Option aL} {a:Act} {hd:Nat→Value}
structure aBj (w0:fJ) (h:Hp) (bl:Nat→Option aL) (hd:Nat→Value) (g:Nat):Prop where
 own:w0.own g
 out:h g = none
 off:∀ id b,bl id = some b→b.live = true→hY (hd id) ≠ some g
theorem aBj.new (r:Rl nt w0 h0 fr bl a w h hd) {g:Nat} (hg:w.heap.size ≤ g):aBj w0 h bl hd g where
 own:=.inl (Nat.le_trans r.below.size hg)
 out:=EQ r.hle hg
 off:=fun id b hb hl q=>by have:=((r.blk id b hb).num hl q).2.1; omega
inductive aMZ where
 | vm (so:bL)
 | ins (k t:Nat)
structure aI3 where
 it:Nat
 nx:Nat
 ok:Nat
 en:Nat
 k1:Nat
 v1:Nat
 kk:Nat
 vv:Nat
 d1:Nat
 d2:Nat
 d3:Nat
 dc:Nat
 da:Nat
 out:Nat
def aI3.slots (L:aI3):List Nat:=[L.nx,L.ok,L.en,L.k1,L.v1,L.kk,L.vv,L.d1,L.d2,L.d3,L.dc,L.da]
def aGp {α:Type} (Q:α→Prop):List α→Prop
 | []=>True
 | x :: l=>Q x ∧ aGp Q l
theorem aGp.all {α:Type} {Q:α→Prop}:∀ {l:List α},aGp Q l→∀ x ∈ l,Q x
 | [],_,x,h=>by simp at h
 | y :: l,q,x,h=>by
  rcases List.mem_cons.1 h with rfl | h
  ·exact q.1
  ·exact aGp.all q.2 x h
end
end Vm
end Go.Proofs.Ytiimibimkpimbaa
set_option linter.unusedVariables false
set_option linter.unusedSimpArgs false
namespace Go.Proofs.Ytiimibimkpimbaa
namespace Vm
open Go.RowKit
section
variable {β:Type} {T:vT} {fr:List (Nat × V)} {bl:List (Nat × Option aL)}
end
end Vm
end Go.Proofs.Ytiimibimkpimbaa
set_option linter.unusedVariables false
set_option linter.unusedSimpArgs false
namespace Go.Proofs.Ytiimibimkpimbaa
namespace Vm
open Go.RowKit Go.Maps
def fJ.now (b:fJ) (w:World) (rr it:Nat) (itv:Value):fJ:={ w with L:=fun g=>b.own g ∧ g ≠ rr ∧ g < w.heap.size,F:=fun i=>if i = it then some itv else none,O:=b.O }
section
variable {P:Program} {nt:Nat} {w0:fJ} {w w' : World} {h0 h h' : Hp} {fr fr' : Nat→V} {bl bl' : Nat→Option aL} {a a' : Act} {hd hd' : Nat→Value} {rr it:Nat} {itv:Value}
theorem Q4 {b:fJ} (hs:b.heap.size ≤ w.heap.size) {g:Nat} (h:(b.now w rr it itv).own g):b.own g:=by
 rcases h with h | h
 ·exact .inl (Nat.le_trans hs h)
 ·exact h.1
theorem W1 {b:fJ} (hlt:rr < w.heap.size):¬ (b.now w rr it itv).own rr:=by
 rintro (h | h)
 ·exact absurd h (Nat.not_le_of_lt hlt)
 ·exact h.2.1 rfl
theorem BR.rebase {b0 b1:fJ} {id:Nat} {b:aL} (hown:b.live = true→∀ g,hY (hd id) = some g→b0.own g) (hO:b0.O = b1.O) (r:BR b1 w h hd bl id b):BR b0 w h hd bl id b:=by
 cases b with
 | box cs =>
  obtain ⟨g,arr,e,h1,h2,h3⟩:=r
  exact ⟨g,arr,e,h1,hown rfl g (by rw [h1]; rfl),h3⟩
 | rows ver e size rows =>
  obtain ⟨h1,h2,h3,h4⟩:=r
  exact ⟨h1,h2,h3,fun g hg=>⟨(h4 g hg).1,hown rfl g hg⟩⟩
 | froz ver rows=>exact r
 | fbox cs=>exact r
 | mp ek m =>
  obtain ⟨g,h1,h2,h3⟩:=r
  exact ⟨g,h1,hown rfl g (by rw [h1]; rfl),h3⟩
 | fmp ek m=>exact r
 | outer cs =>
  intro j x hx
  rw [hO]
  exact r j x hx
theorem Rl.now (r:Rl nt w0 h0 fr bl a w h hd) (hS:aBj w0 h bl hd rr) (hit:a.tmps.getD it undef = itv):Rl nt (w0.now w rr it itv) h fr bl a w h hd where
 tmps:=r.tmps
 defers:=r.defers
 fixed:=fun t v e=>by
  simp only [fJ.now] at e
  split at e
  ·rename_i q; cases e; rw [q]; exact hit
  ·cases e
 below:=xU.refl _ _
 hle:=r.hle
 h0le:=Hp.le.refl _
 hbase:=fun _ _=>rfl
 frame:=r.frame
 blk:=fun id b hb=>BR.rebase (b1:=w0) (fun hl g hg=>by
  obtain ⟨q1,q2,_⟩:=(r.blk id b hb).num hl hg
  exact .inr ⟨q1,fun e=>hS.off id b hb hl (e ▸ hg),q2⟩) rfl (r.blk id b hb)
 sep:=r.sep
theorem Rl.back (hF:∀ t,w0.F t = none) (r:Rl nt w0 h0 fr bl a w h hd) (r' : Rl nt (w0.now w rr it itv) h fr' bl' a' w' h' hd'):Rl nt w0 h0 fr' bl' a' w' h' hd' where
 tmps:=r'.tmps
 defers:=r'.defers
 fixed:=fun t v e=>by rw [hF t] at e; cases e
 below:=r.below.trans ⟨r'.below.os,r'.below.tape,r'.below.output,r'.below.size,fun k hk=>r'.below.block k fun q=>hk (Q4 r.below.size q)⟩
 hle:=r'.hle
 h0le:=r.h0le.trans r'.h0le
 hbase:=fun b hb=>(r'.hbase b fun q=>hb (Q4 r.below.size q)).trans (r.hbase b hb)
 frame:=r'.frame
 blk:=fun id b hb=>BR.rebase (b1:=w0.now w rr it itv) (fun hl g hg=>Q4 r.below.size ((r'.blk id b hb).num hl hg).1) rfl (r'.blk id b hb)
 sep:=r'.sep
theorem aBj.back (hS:aBj w0 h bl hd rr) (hlt:rr < w.heap.size) (r' : Rl nt (w0.now w rr it itv) h fr' bl' a' w' h' hd'):aBj w0 h' bl' hd' rr ∧ w'.heap[rr]? = w.heap[rr]? :=
 ⟨⟨hS.own,(r'.hbase rr (W1 hlt)).trans hS.out,fun id b hb hl q=>W1 hlt ((r'.blk id b hb).num hl q).1⟩,r'.below.block rr (W1 hlt)⟩
structure YR where
 it:Nat
 nx:Nat
 ok:Nat
 en:Nat
 k1:Nat
 kk:Nat
def YR.slots (L:YR):List Nat:=[L.nx,L.ok,L.en,L.k1,L.kk]
structure aM5 (L:YR) (oN oX e0 e1 e2:Oper):Prop where
 hN:oN.guard = none ∧ oN.op = .next (.tmp L.it) false ∧ oN.dst = some L.nx
 hX:oX.guard = none ∧ oX.op = .extract (.tmp L.nx) 0 ∧ oX.dst = some L.ok
 h0:e0.guard = none ∧ e0.op = .entry (.tmp L.it) ∧ e0.dst = some L.en
 h1:e1.guard = none ∧ e1.op = .extract (.tmp L.en) 0 ∧ e1.dst = some L.k1
 h2:e2.guard = none ∧ (e2.op = .assign (.tmp L.k1) ∨ e2.op = .move (.tmp L.k1)) ∧ e2.dst = some L.kk
def aLL (l:List (Int × ML)) (k:Int):Bool:=l.any fun p=>decide (p.1 = k)
structure aMU (ek0:Nat) (C:Nat→List D→Option D) (n m:Nat) (L:YR) (sc:aT) (s s2:St):Prop where
 ex:∃ (ek:Nat) (l:List (Int × ML)) (Inv:(Int→Bool)→(Nat→V)→(Nat→Option aL)→Prop),(frT m s).get m = .d (.mp ek l) ∧ (ek = ek0 ∨ ek = 2) ∧
  (∀ left fr bl fr',Inv left fr bl→(∀ t,t ∉ L.it :: L.slots→fr' t = fr t)→Inv left fr' bl) ∧
  (∀ left (s:St) (k:Int),dW k→Inv left s.get s.blk→left k = true→s.get L.kk = .d (.int .i64 k)→∃ s',bY C n sc s = some (.normal,s') ∧ Inv (fun z=>left z && !decide (z = k)) s'.get s'.blk) ∧
  Inv (fun k=>aLL l k) (frT m s).get (frT m s).blk ∧
  ∀ s' : St,Inv (fun _=>false) s'.get s'.blk→(∀ t,s2.get t = .any ∨ s2.get t = s'.get t) ∧ s2.blk = s'.blk
end
section
variable {P:Program} {nt:Nat}
theorem aF.cond {co:Operand} {o:dL} {c d:Code} {x y:aT} (h0:jB co = some o) (h1:aF P nt c x) (h2:aF P nt d y):aF P nt (.cond co c d) (.cond o x y):=by
 intro C hC n w0 h0' s s' ex a w h hd Q hF he r hQ
 have hc:=bX r.frame h0
 simp only [bY] at he
 split at he
 ·rename_i hb
  rw [hb] at hc
  exact wp_cond_true (pR hc) (h1 C hC n w0 h0' s s' ex a w h hd Q hF he r hQ)
 ·rename_i hb
  rw [hb] at hc
  exact wp_cond_false (pR hc) (h2 C hC n w0 h0' s s' ex a w h hd Q hF he r hQ)
 ·cases he
theorem aF.block {id:Nat} {c:Code} {x:aT} (h1:aF P nt c x):aF P nt (.block id c) (.block id x):=by
 intro C hC n w0 h0 s s' ex a w h hd Q hF he r hQ
 refine wp_block ?_
 simp only [bY] at he
 split at he
 ·rename_i id'' s1 he1
  refine h1 C hC n w0 h0 s s1 (.exit id'') a w h hd _ hF he1 r fun a' w' h' hd' r'=>?_
  simp only [Ex.go,Exit.inBlock]
  split at he
  ·rename_i hid
   cases he
   rw [if_pos hid]
   exact hQ _ _ _ _ r'
  ·rename_i hid
   cases he
   rw [if_neg hid]
   exact hQ _ _ _ _ r'
 ·rename_i hne
  refine h1 C hC n w0 h0 s s' ex a w h hd _ hF he r fun a' w' h' hd' r'=>?_
  cases ex with
  | normal=>exact hQ _ _ _ _ r'
  | exit id=>exact absurd he (hne _ _)
  | ret=>exact hQ _ _ _ _ r'
theorem aF.loop {c:Code} {x:aT} (h1:aF P nt c x):aF P nt (.loop c) (.loop x):=by
 intro C hC n w0 h0 s s' ex a w h hd Q hF he r hQ
 simp only [bY] at he
 refine SL (fun k a w=>∃ s h hd,sB (bY C n x) k s = some (ex,s') ∧ Rl nt w0 h0 s.get s.blk a w h hd) (fun a w ⟨s,h,hd,q,_⟩=>by simp [sB] at q) ?_ n a w ⟨s,h,hd,he,r⟩
 rintro k a w ⟨s,h,hd,q,r⟩
 simp only [sB] at q
 split at q
 ·rename_i s1 he1
  exact h1 C hC n w0 h0 s s1 .normal a w h hd _ hF he1 r fun a' w' h' hd' r'=>⟨s1,h',hd',q,r'⟩
 ·rename_i hne
  refine h1 C hC n w0 h0 s s' ex a w h hd _ hF q r fun a' w' h' hd' r'=>?_
  cases ex with
  | normal=>exact absurd q (hne _)
  | exit id=>exact hQ _ _ _ _ r'
  | ret=>exact hQ _ _ _ _ r'
end
end Vm
end Go.Proofs.Ytiimibimkpimbaa
set_option linter.unusedVariables false
set_option linter.unusedSimpArgs false
namespace Go.Proofs.Ytiimibimkpimbaa
namespace Vm
open Go.RowKit
abbrev MB:=List (Int × Bool)
def mB (m:MB):List (Int × ML):=m.map fun p=>(p.1,ML.b p.2)
theorem aEb (k:Int) (b:Bool):∀ m:MB,rW k (ML.b b) (mB m) = mB (rW k b m)
 | []=>rfl
 | y :: r=>by
  show (if k < y.1 then _ else _) = mB (if k < y.1 then _ else _)
  split
  ·rfl
  ·show (y.1,ML.b y.2) :: rW k (.b b) (mB r) = (y.1,ML.b y.2) :: mB (rW k b r)
   rw [aEb k b r]
theorem aJ6 (k:Int) (m:MB):v6 k (mB m) = mB (v6 k m):=by
 unfold v6 mB
 rw [List.filter_map]
 rfl
theorem aJw (k:Int) (b:Bool) (m:MB):fQ k (ML.b b) (mB m) = mB (fQ k b m):=by
 unfold fQ
 rw [aJ6,aEb]
theorem aJ1 (k:Int) (z:Bool) (m:MB):gC k (ML.b z) (mB m) = .b (gC k z m):=by
 unfold gC mB
 rw [List.find?_map]
 have e:(fun p:Int × ML=>decide (p.1 = k)) ∘ (fun p:Int × Bool=>(p.1,ML.b p.2)) = fun p:Int × Bool=>decide (p.1 = k):=rfl
 rw [e]
 cases m.find? fun p=>decide (p.1 = k) <;> rfl
theorem aJO (m:MB):(mB m).length = m.length:=List.length_map ..
section
variable {β:Type} {T:vT} {d:Nat} {fr:List (Nat × V)} {bl:List (Nat × Option aL)} {k:V→Option β} {kw:V→List (Nat × Option aL)→Option β}
theorem O6 (ek:Nat):uH T d (.mkmap ek) fr bl k kw = dK bl d fun b=>jR b (kw (.mp d) [(d,some (.mp ek []))]):=by
 unfold uH dK
 simp only [eQ]
 cases lk bl none d <;> rfl
def aFu (ek:Nat) (m a x:V) (bl:List (Nat × Option aL)) (k:V→Option β) (kw:V→List (Nat × Option aL)→Option β):Option β:=AS (match m,GC a,aBS x with
  | .mp id,some n,some x=>match lk bl none id with
   | some (.mp ek' l)=>if x.kind = ek ∧ ek' = ek ∧ l.length < 1000000000000 then some (.any,[(id,some (.mp ek (fQ n x l)))]) else none
   | _=>none
  | _,_,_=>none) k kw
theorem aDp (ek:Nat) (m a x:dL):uH T d (.mput ek m a x) fr bl k kw = d9 fr m fun mv=>d9 fr a fun av=>d9 fr x fun xv=>aFu ek mv av xv bl k kw:=by
 rw [lF]
 rfl
def JE (z:ML) (m a:V) (bl:List (Nat × Option aL)) (k:V→Option β):Option β:=match N2 (lk bl none) m,GC a with
 | some (ek,l),some n=>if l.isEmpty = true ∨ z.kind = ek then k (.d (gC n z l).d) else none
 | _,_=>none
theorem aEh (z:ML) (m a:dL):uH T d (.mget z m a) fr bl k kw = d9 fr m fun mv=>d9 fr a fun av=>JE z mv av bl k:=by
 unfold uH d9 JE
 simp only [eQ]
 cases N2 (lk bl none) (cV (lk fr .any) m) with
 | none=>rfl
 | some p =>
  cases GC (cV (lk fr .any) a) with
  | none=>rfl
  | some n =>
   obtain ⟨ek,l⟩:=p
   simp only
   by_cases h:l.isEmpty = true ∨ z.kind = ek
   ·rw [if_pos h,if_pos h]
   ·rw [if_neg h,if_neg h]
def d1M (id:Nat) (b:Option aL) (k:D→List (Nat × Option aL)→Option β):Option β:=match b with
 | some (.mp ek m)=>k (.mp ek m) [(id,some (.fmp ek m))]
 | some (.fmp ek m)=>k (.mp ek m) []
 | _=>none
theorem aKa (id ek:Nat) (m:List (Int × ML)) (k:D→List (Nat × Option aL)→Option β):d1M id (some (.mp ek m)) k = k (.mp ek m) [(id,some (.fmp ek m))]:=rfl
theorem aJ9 (id:Nat) (k:D→List (Nat × Option aL)→Option β):d1K (.mp id) bl k = dK bl id fun b=>d1M id b k:=by
 unfold d1K dK d1M
 simp only [mN,D0,sZ,EN]
 generalize lk bl none id = b
 cases b with
 | none=>rfl
 | some b=>cases b <;> rfl
def tA:List V→Option β→Option β
 | [],y=>y
 | v :: l,y=>if v.noTup = true then tA l y else none
theorem OQ (y:Option β):∀ l:List V,tA l y = if l.all V.noTup = true then y else none
 | []=>rfl
 | v :: l=>by
  by_cases h:v.noTup = true
  ·simp [tA,h,OQ y l]
  ·simp [tA,h]
theorem aHp (dst:Option Nat) (slots:List Nat) (cs:List V) (v u:V) (l:List V) (k:List (Nat × V)→Option β):O8 dst slots cs (v :: u :: l) k = tA (v :: u :: l) (k (J1 dst (.tup (v :: u :: l)) ++ slots.zip cs)):=by
 rw [LQ,OQ]
theorem W0 (y:Option β):tA [] y = y:=rfl
theorem aFA (x:D) (l:List V) (y:Option β):tA (.d x :: l) y = tA l y:=rfl
theorem XP (i v:Nat) (l:List V) (y:Option β):tA (.own i v :: l) y = tA l y:=rfl
theorem VJ (i v:Nat) (l:List V) (y:Option β):tA (.ptr i v :: l) y = tA l y:=rfl
theorem aD2 (l:List V) (y:Option β):tA (.nil :: l) y = tA l y:=rfl
section
variable (keep:List Nat)
def WB (id:Nat) (b:Option aL) (k:V→Option β):Option β:=match b with
 | some (.mp _ _)=>lD keep id (k (.mp id)) (k .any)
 | some (.fmp ek m)=>k (.d (.mp ek m))
 | _=>k .any
theorem aEg (id:Nat):wJ keep bl (.mp id) k = dK bl id fun b=>WB keep id b k:=by
 unfold wJ dK WB lD
 simp only [E7,PG,s9]
 generalize lk bl none id = b
 cases b with
 | none=>rfl
 | some b=>cases b <;> first | rfl | (simp only; cases h:keep.contains id <;> simp)
theorem aA5 (id ek:Nat) (m:List (Int × ML)):WB keep id (some (.mp ek m)) k = lD keep id (k (.mp id)) (k .any):=rfl
theorem aBV (id:Nat) (cs:List V) (k:List V→Option β):xD keep bl (.mp id :: cs) k = wJ keep bl (.mp id) fun v=>xD keep bl cs fun l=>k (v :: l):=by simp only [AW]; rfl
theorem aAe (ek:Nat) (m:List (Int × ML)) (k:Option aL→Option β):BJ keep bl (some (.mp ek m)) k = k (some (.mp ek m)):=rfl
end
theorem aGQ (i:Nat) (k:List Nat→Option β):CU (.mp i) k = k [i]:=rfl
end
end Vm
end Go.Proofs.Ytiimibimkpimbaa
set_option linter.unusedVariables false
set_option linter.unusedSimpArgs false
namespace Go.Proofs.Ytiimibimkpimbaa
namespace Vm
open Go.RowKit
abbrev MI:=List (Int × Int)
def mI (m:MI):List (Int × ML):=m.map fun p=>(p.1,ML.i p.2)
def eI:Option MI→D
 | none=>.mp 2 []
 | some m=>.mp 0 (mI m)
def SP (k:Int) (z:Int):Option MI→Int
 | none=>z
 | some m=>gC k z m
theorem aDM (k:Int) (b:Int):∀ m:MI,rW k (ML.i b) (mI m) = mI (rW k b m)
 | []=>rfl
 | y :: r=>by
  show (if k < y.1 then _ else _) = mI (if k < y.1 then _ else _)
  split
  ·rfl
  ·show (y.1,ML.i y.2) :: rW k (.i b) (mI r) = (y.1,ML.i y.2) :: mI (rW k b r)
   rw [aDM k b r]
theorem aJy (k:Int) (m:MI):v6 k (mI m) = mI (v6 k m):=by
 unfold v6 mI
 rw [List.filter_map]
 rfl
theorem aKA (k:Int) (b:Int) (m:MI):fQ k (ML.i b) (mI m) = mI (fQ k b m):=by
 unfold fQ
 rw [aJy,aDM]
theorem aEG (k:Int) (z:Int) (m:MI):gC k (ML.i z) (mI m) = .i (gC k z m):=by
 unfold gC mI
 rw [List.find?_map]
 have e:(fun p:Int × ML=>decide (p.1 = k)) ∘ (fun p:Int × Int=>(p.1,ML.i p.2)) = fun p:Int × Int=>decide (p.1 = k):=rfl
 rw [e]
 cases m.find? fun p=>decide (p.1 = k) <;> rfl
theorem aJ4 (m:MI):(mI m).length = m.length:=List.length_map ..
section
variable {β:Type} {T:vT} {d:Nat} {fr:List (Nat × V)} {bl:List (Nat × Option aL)} {k:V→Option β} {kw:V→List (Nat × Option aL)→Option β}
theorem VQ:uH T d (.mkmap 0) fr bl k kw = dK bl d fun b=>jR b (kw (.mp d) [(d,some (.mp 0 (mI [])))]):=O6 0
def QQ (n:Int) (b:Int) (id:Nat) (y:Option aL) (kw:V→List (Nat × Option aL)→Option β):Option β:=match y with
 | some (.mp 0 l)=>if l.length < 1000000000000 then kw .any [(id,some (.mp 0 (fQ n (.i b) l)))] else none
 | _=>none
theorem XQ (id:Nat) (n b:Int):aFu 0 (.mp id) (.d (.int .i64 n)) (.d (.int .i64 b)) bl k kw = if dW n then (if dW b then dK bl id fun y=>QQ n b id y kw else none) else none:=by
 unfold aFu
 simp only [GC,aBS]
 by_cases h:dW n
 ·rw [if_pos h,if_pos h]
  by_cases h2:dW b
  ·rw [if_pos h2,if_pos h2]
   unfold dK
   simp only
   cases lk bl none id with
   | none=>rfl
   | some y =>
    cases y with
    | mp ek l =>
     simp only [ML.kind,true_and]
     by_cases e:ek = 0
     ·subst e
      simp only [true_and,QQ]
      split <;> rfl
     ·rw [if_neg (fun q=>e q.1)]
      match ek,e with
      | 0,e=>exact absurd rfl e
      | _ + 1,_=>rfl
    | _=>rfl
  ·rw [if_neg h2,if_neg h2]
   rfl
 ·rw [if_neg h,if_neg h]
  rfl
theorem aAH (n b:Int) (id:Nat) (m:MI):QQ n b id (some (.mp 0 (mI m))) kw = if m.length < 1000000000000 then kw .any [(id,some (.mp 0 (mI (fQ n b m))))] else none:=by
 unfold QQ
 simp only [aJ4,aKA]
def aDb (z:Int) (n:Int) (y:Option aL) (k:V→Option β):Option β:=match y with
 | some (.mp ek l)=>if l.isEmpty = true ∨ 0 = ek then k (.d (gC n (.i z) l).d) else none
 | some (.fmp ek l)=>if l.isEmpty = true ∨ 0 = ek then k (.d (gC n (.i z) l).d) else none
 | _=>none
theorem WF (z:Int) (id:Nat) (n:Int):JE (.i z) (.mp id) (.d (.int .i64 n)) bl k = if dW n then dK bl id fun y=>aDb z n y k else none:=by
 unfold JE
 simp only [GC,N2]
 by_cases h:dW n
 ·rw [if_pos h,if_pos h]
  unfold dK
  cases lk bl none id with
  | none=>rfl
  | some y=>cases y <;> rfl
 ·rw [if_neg h,if_neg h]
  cases lk bl none id with
  | none=>rfl
  | some y=>cases y <;> rfl
theorem aAb (z:Int) (n:Int) (m:MI):aDb z n (some (.mp 0 (mI m))) k = k (.d (.int .i64 (gC n z m))):=by
 show (if (mI m).isEmpty = true ∨ (0:Nat) = 0 then k (.d (gC n (.i z) (mI m)).d) else none) = _
 rw [if_pos (.inr rfl),aEG]
 rfl
theorem RW (z:Int) (n:Int) (m:MI):JE (.i z) (.d (.mp 0 (mI m))) (.d (.int .i64 n)) bl k = if dW n then k (.d (.int .i64 (gC n z m))) else none:=by
 unfold JE
 simp only [GC,N2]
 by_cases h:dW n
 ·rw [if_pos h,if_pos h]
  show (if (mI m).isEmpty = true ∨ (0:Nat) = 0 then k (.d (gC n (.i z) (mI m)).d) else none) = _
  rw [if_pos (.inr rfl),aEG]
  rfl
 ·rw [if_neg h,if_neg h]
theorem aDu (z:Int) (n:Int) (x:Option MI):JE (.i z) (.d (eI x)) (.d (.int .i64 n)) bl k = if dW n then k (.d (.int .i64 (SP n z x))) else none:=by
 cases x with
 | none =>
  unfold JE
  simp only [GC,N2,eI]
  by_cases h:dW n
  ·rw [if_pos h,if_pos h]; rfl
  ·rw [if_neg h,if_neg h]
 | some m=>exact RW z n m
theorem YV (op:jQ) (m:dL) (k:List Nat→Option β) (h1:op.new = false) (h2:op.peeks = [m]) (h3:op.deeps = []):HQ d op fr bl k = d9 fr m fun v=>CU v k:=by
 unfold HQ d9 CU
 rw [h1,h2,h3]
 simp
theorem aCE (z:ML) (m a:dL) (k:List Nat→Option β):HQ d (.mget z m a) fr bl k = d9 fr m fun v=>CU v k:=YV _ _ _ rfl rfl rfl
theorem aFL (e:Nat) (m a x:dL) (k:List Nat→Option β):HQ d (.mput e m a x) fr bl k = d9 fr m fun v=>CU v k:=YV _ _ _ rfl rfl rfl
theorem X1 (off id i:Nat) (c:V) (cs:List V):oQ 1 off id (.mp i) (some (.box (c :: cs))) kw = E6 (c :: cs) off (.mp i) fun l=>kw .any [(id,some (.box l))]:=HL off id _ c cs rfl rfl
theorem aAo (id:Nat) (cs:List V) (kk:List D→List (Nat × Option aL)→Option β):rL bl (.mp id :: cs) kk = d1K (.mp id) bl fun x g=>rL bl cs fun ds f=>kk (x :: ds) (g ++ f):=rfl
theorem WT:uH T d (.mkmap 3) fr bl k kw = dK bl d fun b=>jR b (kw (.mp d) [(d,some (.mp 3 (mB [])))]):=O6 3
def DH:List V→Option Int
 | [.d (.int .i64 a),.d (.int .i64 b)]=>if dW a ∧ dW b then some (fG a b) else none
 | _=>none
theorem O4 (cs:List V):uM (.agg cs) = DH cs:=by
 unfold uM DH
 split
 ·rename_i a b heq
  cases heq
  rfl
 ·rename_i hn
  split
  ·rename_i a b
   exact absurd rfl (hn a b)
  ·rfl
def HH (n:Int) (b:Bool) (id:Nat) (y:Option aL) (kw:V→List (Nat × Option aL)→Option β):Option β:=match y with
 | some (.mp 3 l)=>if l.length < 1000000000000 then kw .any [(id,some (.mp 3 (fQ n (.b b) l)))] else none
 | _=>none
def K5 (n:Int) (y:Option aL) (k:V→Option β):Option β:=match y with
 | some (.mp 3 l)=>k (.d (gC n (.b false) l).d)
 | _=>none
def QN (m a x:V) (bl:List (Nat × Option aL)) (k:V→Option β) (kw:V→List (Nat × Option aL)→Option β):Option β:=AS (match m,uM a,US x with
  | .mp id,some n,some x=>match lk bl none id with
   | some (.mp 3 l)=>if l.length < 1000000000000 then some (.any,[(id,some (.mp 3 (fQ n (.b x) l)))]) else none
   | _=>none
  | _,_,_=>none) k kw
def QM (m a:V) (bl:List (Nat × Option aL)) (k:V→Option β):Option β:=AS (match m,uM a with
  | .mp id,some n=>match lk bl none id with
   | some (.mp 3 l)=>some (.d (gC n (.b false) l).d,[])
   | _=>none
  | _,_=>none) k fun _ _=>none
theorem aAu (m a x:dL):uH T d (.mputP m a x) fr bl k kw = d9 fr m fun mv=>d9 fr a fun av=>d9 fr x fun xv=>QN mv av xv bl k kw:=by
 rw [lF]
 rfl
theorem aBi (m a:dL):uH T d (.mgetP m a) fr bl k kw = d9 fr m fun mv=>d9 fr a fun av=>QM mv av bl k:=by
 rw [lF]
 show AS (match cV (lk fr .any) m,uM (cV (lk fr .any) a) with
  | .mp id,some n=>match lk bl none id with
   | some (.mp 3 l)=>some (.d (gC n (.b false) l).d,[])
   | _=>none
  | _,_=>none) k kw = AS (match cV (lk fr .any) m,uM (cV (lk fr .any) a) with
  | .mp id,some n=>match lk bl none id with
   | some (.mp 3 l)=>some (.d (gC n (.b false) l).d,[])
   | _=>none
  | _,_=>none) k fun _ _=>none
 split
 ·split <;> rfl
 ·rfl
def FL (x y:D) (f:Int→Option β):Option β:=match x,y with
 | .int .i64 a,.int .i64 b=>if dW a then (if dW b then f (fG a b) else none) else none
 | _,_=>none
theorem aDj (a b:Int) (f:Int→Option β):FL (.int .i64 a) (.int .i64 b) f = if dW a then (if dW b then f (fG a b) else none) else none:=rfl
theorem aBZ (x y:D) (f:Int→Option β):(DH [.d x,.d y]).bind f = FL x y f:=by
 unfold DH FL
 split
 ·rename_i a b heq
  cases heq
  dsimp only
  by_cases h1:dW a
  ·by_cases h2:dW b
   ·rw [if_pos ⟨h1,h2⟩,if_pos h1,if_pos h2]; rfl
   ·rw [if_neg (fun q=>h2 q.2),if_pos h1,if_neg h2]; rfl
  ·rw [if_neg (fun q=>h1 q.1),if_neg h1]; rfl
 ·rename_i hn
  split
  ·rename_i a b
   exact absurd rfl (hn a b)
  ·rfl
theorem ZF (ds:List D) (f:Int→Option β):(DH (bM ds)).bind f = iI ds 0 fun x=>iI ds 1 fun y=>tJ ds 2 (FL x y f):=by
 match ds with
 | []=>rfl
 | [x] =>
  have e:DH (bM [x]) = none:=by
   unfold DH
   split
   ·rename_i heq
    simp [bM] at heq
   ·rfl
  show (DH (bM [x])).bind f = none
  rw [e]
  rfl
 | [x,y]=>exact aBZ x y f
 | x :: y :: z :: r =>
  have e:DH (bM (x :: y :: z :: r)) = none:=by
   unfold DH
   split
   ·rename_i heq
    simp [bM] at heq
   ·rfl
  show (DH (bM (x :: y :: z :: r))).bind f = (if (x :: y :: z :: r).length = 2 then FL x y f else none)
  rw [e,if_neg (by simp)]
  rfl
theorem SE (id:Nat) (a:V):QM (.mp id) a bl k = (uM a).bind fun n=>dK bl id fun y=>K5 n y k:=by
 unfold QM dK
 cases uM a with
 | none=>rfl
 | some n =>
  show AS (match lk bl none id with
   | some (.mp 3 l)=>some (.d (gC n (.b false) l).d,[])
   | _=>none) k (fun _ _=>none) = K5 n (lk bl none id) k
  unfold K5
  split <;> rfl
theorem T3 (id:Nat) (a:V) (b:Bool):QN (.mp id) a (.d (.bool b)) bl k kw = (uM a).bind fun n=>dK bl id fun y=>HH n b id y kw:=by
 unfold QN dK
 cases uM a with
 | none=>rfl
 | some n =>
  show AS (match lk bl none id with
   | some (.mp 3 l)=>if l.length < 1000000000000 then some (.any,[(id,some (.mp 3 (fQ n (.b b) l)))]) else none
   | _=>none) k kw = HH n b id (lk bl none id) kw
  unfold HH
  split
  ·split <;> rfl
  ·rfl
theorem aCa (id:Nat) (ds:List D):QM (.mp id) (oJ ds) bl k = iI ds 0 fun x=>iI ds 1 fun y=>tJ ds 2 (FL x y fun n=>dK bl id fun z=>K5 n z k):=by
 rw [SE]
 show (uM (.agg (bM ds))).bind _ = _
 rw [O4,ZF]
theorem aAO (id:Nat) (ds:List D) (b:Bool):QN (.mp id) (oJ ds) (.d (.bool b)) bl k kw = iI ds 0 fun x=>iI ds 1 fun y=>tJ ds 2 (FL x y fun n=>dK bl id fun z=>HH n b id z kw):=by
 rw [T3]
 show (uM (.agg (bM ds))).bind _ = _
 rw [O4,ZF]
theorem aCf (n:Int) (b:Bool) (id:Nat) (m:MB):HH n b id (some (.mp 3 (mB m))) kw = if m.length < 1000000000000 then kw .any [(id,some (.mp 3 (mB (fQ n b m))))] else none:=by
 unfold HH
 simp only [aJO,aJw]
theorem aBQ (n:Int) (m:MB):K5 n (some (.mp 3 (mB m))) k = k (.d (.bool (gC n false m))):=by
 show k (.d (gC n (.b false) (mB m)).d) = _
 rw [aJ1]
 rfl
end
end Vm
end Go.Proofs.Ytiimibimkpimbaa
set_option linter.unusedVariables false
set_option linter.unusedSimpArgs false
namespace Go.Proofs.Ytiimibimkpimbaa
namespace Vm
open Go.RowKit
section
variable {β:Type} {T:vT} {d:Nat} {fr:List (Nat × V)} {bl:List (Nat × Option aL)} {k:V→Option β} {kw:V→List (Nat × Option aL)→Option β}
end
end Vm
end Go.Proofs.Ytiimibimkpimbaa
