/- A map that is laid and ranged over, each entry written into a row of the call's own: in whatever order. The small machine, read from the front: a range over a map that is laid. A range over a map keyed by numbers, each round of which is code of the small machine: in whatever order. The small machine, read from the front: maps of bools keyed by numbers. The small machine, read from the front: maps of numbers keyed by numbers. The small machine, read from the front: pointers that may be nil, arrays of them. 'slices.Sorted(maps.Keys(m))' as one piece: what it does to the state. -/
import Derived.Test.YtjjcaapdaldedaaVmD
import Derived.Maps.RangeWalk
import Derived.WalkArith
import Derived.Test.YtjjcaapdaldedaaVmF
import Derived.Laws.IdiomRangeMap
set_option linter.unusedVariables false
set_option linter.unusedSimpArgs false
namespace Go.Proofs.Ytjjcaapdaldedaa
namespace Vm
open Go.RowKit Go.Maps
section
variable {P:Program} {nt:Nat} {w0:eQ} {w w' : World} {h0 h:Hp} {fr:Nat->V} {bl:Nat->Option aI} {a:Act} {hd:Nat->Value}
structure aGe (w0:eQ) (h:Hp) (bl:Nat->Option aI) (hd:Nat->Value) (g:Nat):Prop where
 own:w0.own g
 out:h g = none
 off:∀ id b,bl id = some b->b.live = true->iK (hd id) ≠ some g
theorem aGe.new (r:Rl nt w0 h0 fr bl a w h hd) {g:Nat} (hg:w.heap.size <= g):aGe w0 h bl hd g where
 own:=.inl (Nat.le_trans r.below.size hg)
 out:=L5 r.hle hg
 off:=fun id b hb hl q=>by have:=((r.blk id b hb).num hl q).2.1; omega
inductive aSr where
 | vm (so:aT)
 | ins (k t:Nat)
structure aNG where
 it:Nat
 nx:Nat
 ok:Nat
 en:Nat
 k1:Nat
 v1:Nat
 kk:Nat
 vv:Nat
 d1:Nat
 d2:Nat
 d3:Nat
 dc:Nat
 da:Nat
 out:Nat
def aNG.slots (L:aNG):List Nat:=[L.nx,L.ok,L.en,L.k1,L.v1,L.kk,L.vv,L.d1,L.d2,L.d3,L.dc,L.da]
theorem aCt {P:Program} {e:TypeId} {z:Value} {s b:Nat} (h:(P.info? e).map (fun i=>(i.zero,i.size,i.bytes)) = some (some z,s,b)):∃ i,P.info? e = some i ∧ i.zero = some z ∧ i.size = s ∧ i.bytes = b:=by
 cases hi:P.info? e with
 | none=>rw [hi] at h; cases h
 | some i=>rw [hi] at h; simp only [Option.map_some,Option.some.injEq,Prod.mk.injEq] at h; exact ⟨i,rfl,h.1,h.2.1,h.2.2⟩
def aMg {α:Type} (Q:α->Prop):List α->Prop
 | []=>True
 | x :: l=>Q x ∧ aMg Q l
theorem aMg.all {α:Type} {Q:α->Prop}:∀ {l:List α},aMg Q l->∀ x ∈ l,Q x
 | [],_,x,h=>by simp at h
 | y :: l,q,x,h=>by
  rcases List.mem_cons.1 h with rfl | h
  ·exact q.1
  ·exact aMg.all q.2 x h
end
end Vm
end Go.Proofs.Ytjjcaapdaldedaa
namespace Go.Proofs.Ytjjcaapdaldedaa
namespace Vm
open Go.RowKit
section
variable {β:Type} {T:CO} {fr:List (Nat × V)} {bl:List (Nat × Option aI)}
end
end Vm
end Go.Proofs.Ytjjcaapdaldedaa
namespace Go.Proofs.Ytjjcaapdaldedaa
namespace Vm
open Go.RowKit Go.Maps
def eQ.now (b:eQ) (w:World) (rr it:Nat) (itv:Value):eQ:={ w with L:=fun g=>b.own g ∧ g ≠ rr ∧ g < w.heap.size,F:=fun i=>if i = it then some itv else none,O:=b.O }
section
variable {P:Program} {nt:Nat} {w0:eQ} {w w' : World} {h0 h h' : Hp} {fr fr' : Nat->V} {bl bl' : Nat->Option aI} {a a' : Act} {hd hd' : Nat->Value} {rr it:Nat} {itv:Value}
theorem YS {b:eQ} (hs:b.heap.size <= w.heap.size) {g:Nat} (h:(b.now w rr it itv).own g):b.own g:=by
 rcases h with h | h
 ·exact .inl (Nat.le_trans hs h)
 ·exact h.1
theorem aCZ {b:eQ} (hlt:rr < w.heap.size):¬ (b.now w rr it itv).own rr:=by
 rintro (h | h)
 ·exact absurd h (Nat.not_le_of_lt hlt)
 ·exact h.2.1 rfl
theorem BR.rebase {b0 b1:eQ} {id:Nat} {b:aI} (hown:b.live = true->∀ g,iK (hd id) = some g->b0.own g) (hO:b0.O = b1.O) (r:BR b1 w h hd bl id b):BR b0 w h hd bl id b:=by
 cases b with
 | box cs =>
  obtain ⟨g,arr,e,h1,h2,h3⟩:=r
  exact ⟨g,arr,e,h1,hown rfl g (by rw [h1]; rfl),h3⟩
 | rows ver e size rows =>
  obtain ⟨h1,h2,h3,h4⟩:=r
  exact ⟨h1,h2,h3,fun g hg=>⟨(h4 g hg).1,hown rfl g hg⟩⟩
 | froz ver rows=>exact r
 | fbox cs=>exact r
 | mp ek m =>
  obtain ⟨g,h1,h2,h3⟩:=r
  exact ⟨g,h1,hown rfl g (by rw [h1]; rfl),h3⟩
 | fmp ek m=>exact r
 | outer cs =>
  intro j x hx
  rw [hO]
  exact r j x hx
theorem Rl.now (r:Rl nt w0 h0 fr bl a w h hd) (hS:aGe w0 h bl hd rr) (hit:a.tmps.getD it undef = itv):Rl nt (w0.now w rr it itv) h fr bl a w h hd where
 tmps:=r.tmps
 defers:=r.defers
 fixed:=fun t v e=>by
  simp only [eQ.now] at e
  split at e
  ·rename_i q; cases e; rw [q]; exact hit
  ·cases e
 below:=GR.refl _ _
 hle:=r.hle
 h0le:=Hp.le.refl _
 hbase:=fun _ _=>rfl
 frame:=r.frame
 blk:=fun id b hb=>BR.rebase (b1:=w0) (fun hl g hg=>by
  obtain ⟨q1,q2,_⟩:=(r.blk id b hb).num hl hg
  exact .inr ⟨q1,fun e=>hS.off id b hb hl (e ▸ hg),q2⟩) rfl (r.blk id b hb)
 sep:=r.sep
theorem Rl.back (hF:∀ t,w0.F t = none) (r:Rl nt w0 h0 fr bl a w h hd) (r' : Rl nt (w0.now w rr it itv) h fr' bl' a' w' h' hd'):Rl nt w0 h0 fr' bl' a' w' h' hd' where
 tmps:=r'.tmps
 defers:=r'.defers
 fixed:=fun t v e=>by rw [hF t] at e; cases e
 below:=r.below.trans ⟨r'.below.os,r'.below.tape,r'.below.output,r'.below.size,fun k hk=>r'.below.block k fun q=>hk (YS r.below.size q)⟩
 hle:=r'.hle
 h0le:=r.h0le.trans r'.h0le
 hbase:=fun b hb=>(r'.hbase b fun q=>hb (YS r.below.size q)).trans (r.hbase b hb)
 frame:=r'.frame
 blk:=fun id b hb=>BR.rebase (b1:=w0.now w rr it itv) (fun hl g hg=>YS r.below.size ((r'.blk id b hb).num hl hg).1) rfl (r'.blk id b hb)
 sep:=r'.sep
theorem aGe.back (hS:aGe w0 h bl hd rr) (hlt:rr < w.heap.size) (r' : Rl nt (w0.now w rr it itv) h fr' bl' a' w' h' hd'):aGe w0 h' bl' hd' rr ∧ w'.heap[rr]? = w.heap[rr]? :=
 ⟨⟨hS.own,(r'.hbase rr (aCZ hlt)).trans hS.out,fun id b hb hl q=>aCZ hlt ((r'.blk id b hb).num hl q).1⟩,r'.below.block rr (aCZ hlt)⟩
structure aD9 where
 it:Nat
 nx:Nat
 ok:Nat
 en:Nat
 k1:Nat
 kk:Nat
def aD9.slots (L:aD9):List Nat:=[L.nx,L.ok,L.en,L.k1,L.kk]
structure aSL (L:aD9) (oN oX e0 e1 e2:Oper):Prop where
 hN:oN.guard = none ∧ oN.op = .next (.tmp L.it) false ∧ oN.dst = some L.nx
 hX:oX.guard = none ∧ oX.op = .extract (.tmp L.nx) 0 ∧ oX.dst = some L.ok
 h0:e0.guard = none ∧ e0.op = .entry (.tmp L.it) ∧ e0.dst = some L.en
 h1:e1.guard = none ∧ e1.op = .extract (.tmp L.en) 0 ∧ e1.dst = some L.k1
 h2:e2.guard = none ∧ (e2.op = .assign (.tmp L.k1) ∨ e2.op = .move (.tmp L.k1)) ∧ e2.dst = some L.kk
def aQH (l:List (Int × ML)) (k:Int):Bool:=l.any fun p=>decide (p.1 = k)
structure aSt (ek0:Nat) (C:Nat->List D->Option D) (n m:Nat) (L:aD9) (sc:aD) (s s2:St):Prop where
 ex:∃ (ek:Nat) (l:List (Int × ML)) (Inv:(Int->Bool)->(Nat->V)->(Nat->Option aI)->Prop),(frT m s).get m = .d (.mp ek l) ∧ (ek = ek0 ∨ ek = 2) ∧
  (∀ left fr bl fr',Inv left fr bl->(∀ t,t ∉ L.it :: L.slots->fr' t = fr t)->Inv left fr' bl) ∧
  (∀ left (s:St) (k:Int),uV k->Inv left s.get s.blk->left k = true->s.get L.kk = .d (.int .i64 k)->∃ s',bE C n sc s = some (.normal,s') ∧ Inv (fun z=>left z && !decide (z = k)) s'.get s'.blk) ∧
  Inv (fun k=>aQH l k) (frT m s).get (frT m s).blk ∧
  ∀ s' : St,Inv (fun _=>false) s'.get s'.blk->(∀ t,s2.get t = .any ∨ s2.get t = s'.get t) ∧ s2.blk = s'.blk
end
section
variable {P:Program} {nt:Nat}
theorem aE.cond {co:Operand} {o:bS} {c d:Code} {x y:aD} (h0:jJ co = some o) (h1:aE P nt c x) (h2:aE P nt d y):aE P nt (.cond co c d) (.cond o x y):=by
 intro C hC n w0 h0' s s' ex a w h hd Q hF he r hQ
 have hc:=a6 r.frame h0
 simp only [bE] at he
 split at he
 ·rename_i hb
  rw [hb] at hc
  exact wp_cond_true (tQ hc) (h1 C hC n w0 h0' s s' ex a w h hd Q hF he r hQ)
 ·rename_i hb
  rw [hb] at hc
  exact wp_cond_false (tQ hc) (h2 C hC n w0 h0' s s' ex a w h hd Q hF he r hQ)
 ·cases he
theorem aE.block {id:Nat} {c:Code} {x:aD} (h1:aE P nt c x):aE P nt (.block id c) (.block id x):=by
 intro C hC n w0 h0 s s' ex a w h hd Q hF he r hQ
 refine wp_block ?_
 simp only [bE] at he
 split at he
 ·rename_i id'' s1 he1
  refine h1 C hC n w0 h0 s s1 (.exit id'') a w h hd _ hF he1 r fun a' w' h' hd' r'=>?_
  simp only [Ex.go,Exit.inBlock]
  split at he
  ·rename_i hid
   cases he
   rw [if_pos hid]
   exact hQ _ _ _ _ r'
  ·rename_i hid
   cases he
   rw [if_neg hid]
   exact hQ _ _ _ _ r'
 ·rename_i hne
  refine h1 C hC n w0 h0 s s' ex a w h hd _ hF he r fun a' w' h' hd' r'=>?_
  cases ex with
  | normal=>exact hQ _ _ _ _ r'
  | exit id=>exact absurd he (hne _ _)
  | ret=>exact hQ _ _ _ _ r'
theorem aE.loop {c:Code} {x:aD} (h1:aE P nt c x):aE P nt (.loop c) (.loop x):=by
 intro C hC n w0 h0 s s' ex a w h hd Q hF he r hQ
 simp only [bE] at he
 refine aBr (fun k a w=>∃ s h hd,xT (bE C n x) k s = some (ex,s') ∧ Rl nt w0 h0 s.get s.blk a w h hd) (fun a w ⟨s,h,hd,q,_⟩=>by simp [xT] at q) ?_ n a w ⟨s,h,hd,he,r⟩
 rintro k a w ⟨s,h,hd,q,r⟩
 simp only [xT] at q
 split at q
 ·rename_i s1 he1
  exact h1 C hC n w0 h0 s s1 .normal a w h hd _ hF he1 r fun a' w' h' hd' r'=>⟨s1,h',hd',q,r'⟩
 ·rename_i hne
  refine h1 C hC n w0 h0 s s' ex a w h hd _ hF q r fun a' w' h' hd' r'=>?_
  cases ex with
  | normal=>exact absurd q (hne _)
  | exit id=>exact hQ _ _ _ _ r'
  | ret=>exact hQ _ _ _ _ r'
end
end Vm
end Go.Proofs.Ytjjcaapdaldedaa
namespace Go.Proofs.Ytjjcaapdaldedaa
namespace Vm
open Go.RowKit
section
variable {β:Type} {T:CO} {d:Nat} {fr:List (Nat × V)} {bl:List (Nat × Option aI)} {k:V->Option β} {kw:V->List (Nat × Option aI)->Option β}
section
variable (keep:List Nat)
end
end
end Vm
end Go.Proofs.Ytjjcaapdaldedaa
namespace Go.Proofs.Ytjjcaapdaldedaa
namespace Vm
open Go.RowKit
section
variable {β:Type} {T:CO} {d:Nat} {fr:List (Nat × V)} {bl:List (Nat × Option aI)} {k:V->Option β} {kw:V->List (Nat × Option aI)->Option β}
theorem aMB (op:iF) (m:bS) (k:List Nat->Option β) (h1:op.new = false) (h2:op.peeks = [m]) (h3:op.deeps = []):PR d op fr bl k = cJ fr m fun v=>MX v k:=by
 unfold PR cJ MX
 rw [h1,h2,h3]
 simp
end
end Vm
end Go.Proofs.Ytjjcaapdaldedaa
namespace Go.Proofs.Ytjjcaapdaldedaa
namespace Vm
open Go.RowKit
def WO {α:Type} (c:α->List D):Option α->D
 | none=>.np
 | some x=>.ptr (c x) 0
section
variable {β α:Type} {T:CO} {d:Nat} {fr:List (Nat × V)} {bl:List (Nat × Option aI)} {k:V->Option β} {kw:V->List (Nat × Option aI)->Option β}
def aBN (neg:Bool) (v:V) (k:V->Option β):Option β:=match aAJ neg v with
 | some d=>k (.d d)
 | none=>none
theorem aHy (neg:Bool) (x:bS):AC T d (.isnp neg x) fr bl k kw = cJ fr x fun a=>aBN neg a k:=by
 unfold AC cJ aBN
 simp only [b9]
 cases aAJ neg (bI (lk fr .any) x) <;> rfl
theorem aJi (neg:Bool):aBN neg (.d .np) k = k (.d (.bool (!neg))):=rfl
theorem aJn (c:α->List D) (x:Option α):aBN false (.d (WO c x)) k = k (.d (.bool x.isNone)):=by cases x <;> rfl
theorem aKi (c:α->List D) (x:Option α):aBN true (.d (WO c x)) k = k (.d (.bool x.isSome)):=by cases x <;> rfl
theorem aPi (c:α->List D) (x:Option α):aNY (.d (WO c x)) bl k = x.bind fun y=>k (.d (.ptr (c y) 0)):=by cases x <;> rfl
def iaK (n size:Nat) (x i:V) (bl:List (Nat × Option aI)) (k:V->Option β):Option β:=match i with
 | .d (.int _ q)=>if 0 <= q ∧ q < n then faK (q.toNat * size) x bl k else none
 | _=>none
theorem YW (n size:Nat) (x i:bS):AC T d (.indexArr n size x i) fr bl k kw = cJ fr x fun a=>cJ fr i fun b=>iaK n size a b bl k:=by
 unfold AC cJ iaK
 simp only [b9]
 generalize bI (lk fr .any) x = a
 generalize bI (lk fr .any) i = b
 cases b with
 | d y =>
  cases y with
  | int kd q =>
   dsimp only
   by_cases h:0 <= q ∧ q < n
   ·rw [if_pos h,if_pos h]
    unfold faK
    cases a with
    | d z=>cases z <;> rfl
    | orow id ver i off =>
     dsimp only
     unfold cY aBC
     cases lk bl none id with
     | none=>rfl
     | some b =>
      cases b with
      | rows v e s r=>dsimp only; by_cases hv:ver = v <;> simp [hv]
      | _=>rfl
    | _=>rfl
   ·rw [if_neg h,if_neg h]
  | _=>rfl
 | _=>rfl
theorem aPk (kd:IntKind) (size id off:Nat):iaK 2 size (.ptr id off) (.d (.int kd 0)) bl k = k (.ptr id off):=by
 show (if (0:Int) <= 0 ∧ (0:Int) < ((2:Nat):Int) then faK (0 * size) (.ptr id off) bl k else none) = _
 rw [if_pos (by decide),Nat.zero_mul]
 rfl
theorem aOn (kd:IntKind) (id off:Nat):iaK 2 1 (.ptr id off) (.d (.int kd 1)) bl k = k (.ptr id (off + 1)):=by
 show (if (0:Int) <= 1 ∧ (1:Int) < ((2:Nat):Int) then faK (1 * 1) (.ptr id off) bl k else none) = _
 rw [if_pos (by decide)]
 rfl
def ixK (n:Nat) (x i:V) (k:V->Option β):Option β:=match i with
 | .d (.int _ q)=>if 0 <= q ∧ q < n then (match x with
  | .agg cs=>if cs.length = n then cs[q.toNat]?.bind k else none
  | _=>none) else none
 | _=>none
theorem aIZ (n:Nat) (x i:bS):AC T d (.idxA n x i) fr bl k kw = cJ fr x fun a=>cJ fr i fun b=>ixK n a b k:=by
 unfold AC cJ ixK
 simp only [b9]
 generalize bI (lk fr .any) x = a
 generalize bI (lk fr .any) i = b
 cases b with
 | d y =>
  cases y with
  | int kd q =>
   dsimp only
   by_cases h:0 <= q ∧ q < n
   ·rw [if_pos h,if_pos h]
    cases a with
    | agg cs =>
     dsimp only
     by_cases hl:cs.length = n
     ·rw [if_pos hl,if_pos hl]
      cases cs[q.toNat]? <;> rfl
     ·rw [if_neg hl,if_neg hl]
    | _=>rfl
   ·rw [if_neg h,if_neg h]
  | _=>rfl
 | _=>rfl
theorem aOP (ds:List D) (kd:IntKind) (q:Int):ixK 2 (fL ds) (.d (.int kd q)) k = uQ ds 2 (if q = 0 then dT ds 0 fun x=>k (.d x) else if q = 1 then dT ds 1 fun x=>k (.d x) else none):=by
 show (if 0 <= q ∧ q < ((2:Nat):Int) then (if (aK ds).length = 2 then (aK ds)[q.toNat]?.bind k else none) else none) = _
 unfold uQ
 have hl:(aK ds).length = ds.length:=VG ds
 rw [hl]
 by_cases h2:ds.length = 2
 ·rw [if_pos h2,if_pos h2]
  match ds,h2 with
  | [a,b],_ =>
   by_cases q0:q = 0
   ·subst q0
    rfl
   ·rw [if_neg q0]
    by_cases q1:q = 1
    ·subst q1
     rfl
    ·rw [if_neg q1,if_neg (by omega)]
 ·rw [if_neg h2,if_neg h2]
  split <;> rfl
theorem aH3 (n:Bool) (x:bS) (k:List Nat->Option β):PR d (.isnp n x) fr bl k = k []:=rfl
theorem Y1 (n s:Nat) (x i:bS) (k:List Nat->Option β):PR d (.indexArr n s x i) fr bl k = cJ fr x fun v=>MX v k:=aMB _ _ _ rfl rfl rfl
def LG (bl:List (Nat × Option aI)) (cs:List V) (k:List D->List (Nat × Option aI)->Option β) (y:Option β):Option β:=match aP (t9 (lk bl none)) cs with
 | some ds=>k ds (cs.flatMap (OL (lk bl none)))
 | none=>y
theorem aIw (id off:Nat) (c:V) (cs:List V) (k:V->List (Nat × Option aI)->Option β) (y:Option β):aOc id off (some (.box (c :: cs))) bl k y = LG bl (c :: cs) (fun ds f=>k (.d (.ptr ds off)) ((id,some (.fbox ds)) :: f)) y:=rfl
theorem aFq (k:List D->List (Nat × Option aI)->Option β) (y:Option β):LG bl [] k y = k [] []:=rfl
theorem UW (v:V) (cs:List V) (k:List D->List (Nat × Option aI)->Option β) (y:Option β):LG bl (v :: cs) k y = match t9 (lk bl none) v with
 | some x=>LG bl cs (fun ds f=>k (x :: ds) (OL (lk bl none) v ++ f)) y
 | none=>y:=by
 unfold LG
 rw [List.flatMap_cons]
 simp only [aP]
 cases t9 (lk bl none) v with
 | none=>rfl
 | some x =>
  dsimp only
  cases aP (t9 (lk bl none)) cs <;> rfl
theorem aNA (x:D) (cs:List V) (k:List D->List (Nat × Option aI)->Option β) (y:Option β):LG bl (.d x :: cs) k y = LG bl cs (fun ds f=>k (x :: ds) f) y:=by
 rw [UW]
 rfl
def aJ7 (id ver:Nat) (b:Option aI) (bl:List (Nat × Option aI)) (cs:List V) (k:List D->List (Nat × Option aI)->Option β) (y:Option β):Option β:=match b with
 | some (.rows v _ _ rows)=>if ver = v then LG bl cs (fun ds f=>k (.sl rows :: ds) ((id,some (.froz v rows)) :: f)) y else y
 | some (.froz v rows)=>if ver = v then LG bl cs (fun ds f=>k (.sl rows :: ds) f) y else y
 | _=>y
theorem aF7 (id ver:Nat) (cs:List V) (k:List D->List (Nat × Option aI)->Option β) (y:Option β):LG bl (.own id ver :: cs) k y = cY bl id fun b=>aJ7 id ver b bl cs k y:=by
 rw [UW]
 unfold cY aJ7
 simp only [t9,OL]
 generalize lk bl none id = b
 cases b with
 | none=>rfl
 | some b =>
  cases b with
  | rows v e s r =>
   dsimp only
   by_cases hv:ver = v
   ·rw [if_pos hv,if_pos hv]; rfl
   ·rw [if_neg hv,if_neg hv]
  | froz v r =>
   dsimp only
   by_cases hv:ver = v
   ·rw [if_pos hv,if_pos hv]; rfl
   ·rw [if_neg hv,if_neg hv]
  | _=>rfl
theorem aDg (id v e s:Nat) (rows:List (List D)) (cs:List V) (k:List D->List (Nat × Option aI)->Option β) (y:Option β):aJ7 id v (some (.rows v e s rows)) bl cs k y = LG bl cs (fun ds f=>k (.sl rows :: ds) ((id,some (.froz v rows)) :: f)) y:=if_pos rfl
theorem aC8 (off id f:Nat) (vs:List V) (c:V) (cs:List V) (kw:V->List (Nat × Option aI)->Option β):gK 1 off id (.fn f vs) (some (.box (c :: cs))) kw = EA (c :: cs) off (.fn f vs) fun l=>kw .any [(id,some (.box l))]:=LU off id _ c cs rfl rfl
theorem aJW (i:Nat) (l:List V):xM i ([] ++ l) = xM i l:=rfl
theorem aJv (i:Nat) (v:V) (l m:List V):xM i ((v :: l) ++ m) = xM i (v :: (l ++ m)):=rfl
end
end Vm
end Go.Proofs.Ytjjcaapdaldedaa
namespace Go.Proofs.Ytjjcaapdaldedaa
namespace Vm
open Go.RowKit
section
variable {β:Type} {T:CO} {d:Nat} {fr:List (Nat × V)} {bl:List (Nat × Option aI)} {k:V->Option β} {kw:V->List (Nat × Option aI)->Option β}
end
end Vm
end Go.Proofs.Ytjjcaapdaldedaa
