/- A map that is laid and ranged over, each entry written into a row of the call's own: in whatever order. The small machine, read from the front: a range over a map that is laid. A range over a map keyed by numbers, each round of which is code of the small machine: in whatever order. The small machine, read from the front: maps of bools keyed by numbers. The small machine, read from the front: maps of numbers keyed by numbers. The small machine, read from the front: pointers that may be nil, arrays of them. 'slices.Sorted(maps.Keys(m))' as one piece: what it does to the state. -/
import Derived.Test.YtjjcaapdaldedaaVmD
import Derived.Maps.RangeWalk
import Derived.WalkArith
import Derived.Test.YtjjcaapdaldedaaVmF
import Derived.Laws.IdiomRangeMap
set_option linter.unusedVariables false
set_option linter.unusedSimpArgs false
namespace Go.Proofs.Ytjjcaapdaldedaa
namespace Vm
open Go.RowKit Go.Maps
section
variable {P:Program} {nt:Nat} {w0:fP} {w w' : World} {h0 h:Hp} {fr:Nat->V} {bl:Nat->Option aR} {a:Act} {hd:Nat->Value}
structure VV (w0:fP) (h:Hp) (bl:Nat->Option aR) (hd:Nat->Value) (g:Nat):Prop where
 own:w0.own g
 out:h g = none
 off:∀ id b,bl id = some b->b.live = true->gS (hd id) ≠ some g
theorem VV.new (r:Rl nt w0 h0 fr bl a w h hd) {g:Nat} (hg:w.heap.size <= g):VV w0 h bl hd g where
 own:=.inl (Nat.le_trans r.below.size hg)
 out:=DC r.hle hg
 off:=fun id b hb hl q=>by have:=((r.blk id b hb).num hl q).2.1; omega
inductive aJd where
 | vm (so:c9)
 | ins (k t:Nat)
structure aFr where
 it:Nat
 nx:Nat
 ok:Nat
 en:Nat
 k1:Nat
 v1:Nat
 kk:Nat
 vv:Nat
 d1:Nat
 d2:Nat
 d3:Nat
 dc:Nat
 da:Nat
 out:Nat
def aFr.slots (L:aFr):List Nat:=[L.nx,L.ok,L.en,L.k1,L.v1,L.kk,L.vv,L.d1,L.d2,L.d3,L.dc,L.da]
theorem R4 {P:Program} {e:TypeId} {z:Value} {s b:Nat} (h:(P.info? e).map (fun i=>(i.zero,i.size,i.bytes)) = some (some z,s,b)):∃ i,P.info? e = some i ∧ i.zero = some z ∧ i.size = s ∧ i.bytes = b:=by
 cases hi:P.info? e with
 | none=>rw [hi] at h; cases h
 | some i=>rw [hi] at h; simp only [Option.map_some,Option.some.injEq,Prod.mk.injEq] at h; exact ⟨i,rfl,h.1,h.2.1,h.2.2⟩
def aCC {α:Type} (Q:α->Prop):List α->Prop
 | []=>True
 | x :: l=>Q x ∧ aCC Q l
theorem aCC.all {α:Type} {Q:α->Prop}:∀ {l:List α},aCC Q l->∀ x ∈ l,Q x
 | [],_,x,h=>by simp at h
 | y :: l,q,x,h=>by
  rcases List.mem_cons.1 h with rfl | h
  ·exact q.1
  ·exact aCC.all q.2 x h
end
end Vm
end Go.Proofs.Ytjjcaapdaldedaa
namespace Go.Proofs.Ytjjcaapdaldedaa
namespace Vm
open Go.RowKit
section
variable {β:Type} {T:xU} {fr:List (Nat × V)} {bl:List (Nat × Option aR)}
end
end Vm
end Go.Proofs.Ytjjcaapdaldedaa
namespace Go.Proofs.Ytjjcaapdaldedaa
namespace Vm
open Go.RowKit Go.Maps
def fP.now (b:fP) (w:World) (rr it:Nat) (itv:Value):fP:={ w with L:=fun g=>b.own g ∧ g ≠ rr ∧ g < w.heap.size,F:=fun i=>if i = it then some itv else none,O:=b.O }
section
variable {P:Program} {nt:Nat} {w0:fP} {w w' : World} {h0 h h' : Hp} {fr fr' : Nat->V} {bl bl' : Nat->Option aR} {a a' : Act} {hd hd' : Nat->Value} {rr it:Nat} {itv:Value}
theorem MY {b:fP} (hs:b.heap.size <= w.heap.size) {g:Nat} (h:(b.now w rr it itv).own g):b.own g:=by
 rcases h with h | h
 ·exact .inl (Nat.le_trans hs h)
 ·exact h.1
theorem SM {b:fP} (hlt:rr < w.heap.size):¬ (b.now w rr it itv).own rr:=by
 rintro (h | h)
 ·exact absurd h (Nat.not_le_of_lt hlt)
 ·exact h.2.1 rfl
theorem BR.rebase {b0 b1:fP} {id:Nat} {b:aR} (hown:b.live = true->∀ g,gS (hd id) = some g->b0.own g) (hO:b0.O = b1.O) (r:BR b1 w h hd bl id b):BR b0 w h hd bl id b:=by
 cases b with
 | box cs =>
  obtain ⟨g,arr,e,h1,h2,h3⟩:=r
  exact ⟨g,arr,e,h1,hown rfl g (by rw [h1]; rfl),h3⟩
 | rows ver e size rows =>
  obtain ⟨h1,h2,h3,h4⟩:=r
  exact ⟨h1,h2,h3,fun g hg=>⟨(h4 g hg).1,hown rfl g hg⟩⟩
 | froz ver rows=>exact r
 | fbox cs=>exact r
 | mp ek m =>
  obtain ⟨g,h1,h2,h3⟩:=r
  exact ⟨g,h1,hown rfl g (by rw [h1]; rfl),h3⟩
 | fmp ek m=>exact r
 | outer cs =>
  intro j x hx
  rw [hO]
  exact r j x hx
theorem Rl.now (r:Rl nt w0 h0 fr bl a w h hd) (hS:VV w0 h bl hd rr) (hit:a.tmps.getD it undef = itv):Rl nt (w0.now w rr it itv) h fr bl a w h hd where
 tmps:=r.tmps
 defers:=r.defers
 fixed:=fun t v e=>by
  simp only [fP.now] at e
  split at e
  ·rename_i q; cases e; rw [q]; exact hit
  ·cases e
 below:=yY.refl _ _
 hle:=r.hle
 h0le:=Hp.le.refl _
 hbase:=fun _ _=>rfl
 frame:=r.frame
 blk:=fun id b hb=>BR.rebase (b1:=w0) (fun hl g hg=>by
  obtain ⟨q1,q2,_⟩:=(r.blk id b hb).num hl hg
  exact .inr ⟨q1,fun e=>hS.off id b hb hl (e ▸ hg),q2⟩) rfl (r.blk id b hb)
 sep:=r.sep
theorem Rl.back (hF:∀ t,w0.F t = none) (r:Rl nt w0 h0 fr bl a w h hd) (r' : Rl nt (w0.now w rr it itv) h fr' bl' a' w' h' hd'):Rl nt w0 h0 fr' bl' a' w' h' hd' where
 tmps:=r'.tmps
 defers:=r'.defers
 fixed:=fun t v e=>by rw [hF t] at e; cases e
 below:=r.below.trans ⟨r'.below.os,r'.below.tape,r'.below.output,r'.below.size,fun k hk=>r'.below.block k fun q=>hk (MY r.below.size q)⟩
 hle:=r'.hle
 h0le:=r.h0le.trans r'.h0le
 hbase:=fun b hb=>(r'.hbase b fun q=>hb (MY r.below.size q)).trans (r.hbase b hb)
 frame:=r'.frame
 blk:=fun id b hb=>BR.rebase (b1:=w0.now w rr it itv) (fun hl g hg=>MY r.below.size ((r'.blk id b hb).num hl hg).1) rfl (r'.blk id b hb)
 sep:=r'.sep
theorem VV.back (hS:VV w0 h bl hd rr) (hlt:rr < w.heap.size) (r' : Rl nt (w0.now w rr it itv) h fr' bl' a' w' h' hd'):VV w0 h' bl' hd' rr ∧ w'.heap[rr]? = w.heap[rr]? :=
 ⟨⟨hS.own,(r'.hbase rr (SM hlt)).trans hS.out,fun id b hb hl q=>SM hlt ((r'.blk id b hb).num hl q).1⟩,r'.below.block rr (SM hlt)⟩
structure UD where
 it:Nat
 nx:Nat
 ok:Nat
 en:Nat
 k1:Nat
 kk:Nat
def UD.slots (L:UD):List Nat:=[L.nx,L.ok,L.en,L.k1,L.kk]
structure aJo (L:UD) (oN oX e0 e1 e2:Oper):Prop where
 hN:oN.guard = none ∧ oN.op = .next (.tmp L.it) false ∧ oN.dst = some L.nx
 hX:oX.guard = none ∧ oX.op = .extract (.tmp L.nx) 0 ∧ oX.dst = some L.ok
 h0:e0.guard = none ∧ e0.op = .entry (.tmp L.it) ∧ e0.dst = some L.en
 h1:e1.guard = none ∧ e1.op = .extract (.tmp L.en) 0 ∧ e1.dst = some L.k1
 h2:e2.guard = none ∧ (e2.op = .assign (.tmp L.k1) ∨ e2.op = .move (.tmp L.k1)) ∧ e2.dst = some L.kk
def aHo (l:List (Int × ML)) (k:Int):Bool:=l.any fun p=>decide (p.1 = k)
structure aJh (ek0:Nat) (C:Nat->List D->Option D) (n m:Nat) (L:UD) (sc:aZ) (s s2:St):Prop where
 ex:∃ (ek:Nat) (l:List (Int × ML)) (Inv:(Int->Bool)->(Nat->V)->(Nat->Option aR)->Prop),(frT m s).get m = .d (.mp ek l) ∧ (ek = ek0 ∨ ek = 2) ∧
  (∀ left fr bl fr',Inv left fr bl->(∀ t,t ∉ L.it :: L.slots->fr' t = fr t)->Inv left fr' bl) ∧
  (∀ left (s:St) (k:Int),qF k->Inv left s.get s.blk->left k = true->s.get L.kk = .d (.int .i64 k)->∃ s',dW C n sc s = some (.normal,s') ∧ Inv (fun z=>left z && !decide (z = k)) s'.get s'.blk) ∧
  Inv (fun k=>aHo l k) (frT m s).get (frT m s).blk ∧
  ∀ s' : St,Inv (fun _=>false) s'.get s'.blk->(∀ t,s2.get t = .any ∨ s2.get t = s'.get t) ∧ s2.blk = s'.blk
end
section
variable {P:Program} {nt:Nat}
theorem aM.cond {co:Operand} {o:eG} {c d:Code} {x y:aZ} (h0:iF co = some o) (h1:aM P nt c x) (h2:aM P nt d y):aM P nt (.cond co c d) (.cond o x y):=by
 intro C hC n w0 h0' s s' ex a w h hd Q hF he r hQ
 have hc:=dJ r.frame h0
 simp only [dW] at he
 split at he
 ·rename_i hb
  rw [hb] at hc
  exact wp_cond_true (o7 hc) (h1 C hC n w0 h0' s s' ex a w h hd Q hF he r hQ)
 ·rename_i hb
  rw [hb] at hc
  exact wp_cond_false (o7 hc) (h2 C hC n w0 h0' s s' ex a w h hd Q hF he r hQ)
 ·cases he
theorem aM.block {id:Nat} {c:Code} {x:aZ} (h1:aM P nt c x):aM P nt (.block id c) (.block id x):=by
 intro C hC n w0 h0 s s' ex a w h hd Q hF he r hQ
 refine wp_block ?_
 simp only [dW] at he
 split at he
 ·rename_i id'' s1 he1
  refine h1 C hC n w0 h0 s s1 (.exit id'') a w h hd _ hF he1 r fun a' w' h' hd' r'=>?_
  simp only [Ex.go,Exit.inBlock]
  split at he
  ·rename_i hid
   cases he
   rw [if_pos hid]
   exact hQ _ _ _ _ r'
  ·rename_i hid
   cases he
   rw [if_neg hid]
   exact hQ _ _ _ _ r'
 ·rename_i hne
  refine h1 C hC n w0 h0 s s' ex a w h hd _ hF he r fun a' w' h' hd' r'=>?_
  cases ex with
  | normal=>exact hQ _ _ _ _ r'
  | exit id=>exact absurd he (hne _ _)
  | ret=>exact hQ _ _ _ _ r'
theorem aM.loop {c:Code} {x:aZ} (h1:aM P nt c x):aM P nt (.loop c) (.loop x):=by
 intro C hC n w0 h0 s s' ex a w h hd Q hF he r hQ
 simp only [dW] at he
 refine OL (fun k a w=>∃ s h hd,uY (dW C n x) k s = some (ex,s') ∧ Rl nt w0 h0 s.get s.blk a w h hd) (fun a w ⟨s,h,hd,q,_⟩=>by simp [uY] at q) ?_ n a w ⟨s,h,hd,he,r⟩
 rintro k a w ⟨s,h,hd,q,r⟩
 simp only [uY] at q
 split at q
 ·rename_i s1 he1
  exact h1 C hC n w0 h0 s s1 .normal a w h hd _ hF he1 r fun a' w' h' hd' r'=>⟨s1,h',hd',q,r'⟩
 ·rename_i hne
  refine h1 C hC n w0 h0 s s' ex a w h hd _ hF q r fun a' w' h' hd' r'=>?_
  cases ex with
  | normal=>exact absurd q (hne _)
  | exit id=>exact hQ _ _ _ _ r'
  | ret=>exact hQ _ _ _ _ r'
end
end Vm
end Go.Proofs.Ytjjcaapdaldedaa
namespace Go.Proofs.Ytjjcaapdaldedaa
namespace Vm
open Go.RowKit
section
variable {β:Type} {T:xU} {d:Nat} {fr:List (Nat × V)} {bl:List (Nat × Option aR)} {k:V->Option β} {kw:V->List (Nat × Option aR)->Option β}
section
variable (keep:List Nat)
end
end
end Vm
end Go.Proofs.Ytjjcaapdaldedaa
namespace Go.Proofs.Ytjjcaapdaldedaa
namespace Vm
open Go.RowKit
section
variable {β:Type} {T:xU} {d:Nat} {fr:List (Nat × V)} {bl:List (Nat × Option aR)} {k:V->Option β} {kw:V->List (Nat × Option aR)->Option β}
theorem aDM (op:iG) (m:eG) (k:List Nat->Option β) (h1:op.new = false) (h2:op.peeks = [m]) (h3:op.deeps = []):GF d op fr bl k = fB fr m fun v=>DK v k:=by
 unfold GF fB DK
 rw [h1,h2,h3]
 simp
end
end Vm
end Go.Proofs.Ytjjcaapdaldedaa
namespace Go.Proofs.Ytjjcaapdaldedaa
namespace Vm
open Go.RowKit
def eB {α:Type} (c:α->List D):Option α->D
 | none=>.np
 | some x=>.ptr (c x) 0
section
variable {β α:Type} {T:xU} {d:Nat} {fr:List (Nat × V)} {bl:List (Nat × Option aR)} {k:V->Option β} {kw:V->List (Nat × Option aR)->Option β}
def O2 (neg:Bool) (v:V) (k:V->Option β):Option β:=match OQ neg v with
 | some d=>k (.d d)
 | none=>none
theorem aCs (neg:Bool) (x:eG):uB T d (.isnp neg x) fr bl k kw = fB fr x fun a=>O2 neg a k:=by
 unfold uB fB O2
 simp only [eS]
 cases OQ neg (dY (lk fr .any) x) <;> rfl
theorem aAI (neg:Bool):O2 neg (.d .np) k = k (.d (.bool (!neg))):=rfl
theorem aB3 (c:α->List D) (x:Option α):O2 false (.d (eB c x)) k = k (.d (.bool x.isNone)):=by cases x <;> rfl
theorem aCl (c:α->List D) (x:Option α):O2 true (.d (eB c x)) k = k (.d (.bool x.isSome)):=by cases x <;> rfl
theorem aGL (c:α->List D) (x:Option α):aGP (.d (eB c x)) bl k = x.bind fun y=>k (.d (.ptr (c y) 0)):=by cases x <;> rfl
def iaK (n size:Nat) (x i:V) (bl:List (Nat × Option aR)) (k:V->Option β):Option β:=match i with
 | .d (.int _ q)=>if 0 <= q ∧ q < n then faK (q.toNat * size) x bl k else none
 | _=>none
theorem NB (n size:Nat) (x i:eG):uB T d (.indexArr n size x i) fr bl k kw = fB fr x fun a=>fB fr i fun b=>iaK n size a b bl k:=by
 unfold uB fB iaK
 simp only [eS]
 generalize dY (lk fr .any) x = a
 generalize dY (lk fr .any) i = b
 cases b with
 | d y =>
  cases y with
  | int kd q =>
   dsimp only
   by_cases h:0 <= q ∧ q < n
   ·rw [if_pos h,if_pos h]
    unfold faK
    cases a with
    | d z=>cases z <;> rfl
    | orow id ver i off =>
     dsimp only
     unfold e8 OJ
     cases lk bl none id with
     | none=>rfl
     | some b =>
      cases b with
      | rows v e s r=>dsimp only; by_cases hv:ver = v <;> simp [hv]
      | _=>rfl
    | _=>rfl
   ·rw [if_neg h,if_neg h]
  | _=>rfl
 | _=>rfl
theorem aGO (kd:IntKind) (size id off:Nat):iaK 2 size (.ptr id off) (.d (.int kd 0)) bl k = k (.ptr id off):=by
 show (if (0:Int) <= 0 ∧ (0:Int) < ((2:Nat):Int) then faK (0 * size) (.ptr id off) bl k else none) = _
 rw [if_pos (by decide),Nat.zero_mul]
 rfl
theorem aGH (kd:IntKind) (id off:Nat):iaK 2 1 (.ptr id off) (.d (.int kd 1)) bl k = k (.ptr id (off + 1)):=by
 show (if (0:Int) <= 1 ∧ (1:Int) < ((2:Nat):Int) then faK (1 * 1) (.ptr id off) bl k else none) = _
 rw [if_pos (by decide)]
 rfl
def ixK (n:Nat) (x i:V) (k:V->Option β):Option β:=match i with
 | .d (.int _ q)=>if 0 <= q ∧ q < n then (match x with
  | .agg cs=>if cs.length = n then cs[q.toNat]?.bind k else none
  | _=>none) else none
 | _=>none
theorem aAo (n:Nat) (x i:eG):uB T d (.idxA n x i) fr bl k kw = fB fr x fun a=>fB fr i fun b=>ixK n a b k:=by
 unfold uB fB ixK
 simp only [eS]
 generalize dY (lk fr .any) x = a
 generalize dY (lk fr .any) i = b
 cases b with
 | d y =>
  cases y with
  | int kd q =>
   dsimp only
   by_cases h:0 <= q ∧ q < n
   ·rw [if_pos h,if_pos h]
    cases a with
    | agg cs =>
     dsimp only
     by_cases hl:cs.length = n
     ·rw [if_pos hl,if_pos hl]
      cases cs[q.toNat]? <;> rfl
     ·rw [if_neg hl,if_neg hl]
    | _=>rfl
   ·rw [if_neg h,if_neg h]
  | _=>rfl
 | _=>rfl
theorem aGy (ds:List D) (kd:IntKind) (q:Int):ixK 2 (iS ds) (.d (.int kd q)) k = qE ds 2 (if q = 0 then fK ds 0 fun x=>k (.d x) else if q = 1 then fK ds 1 fun x=>k (.d x) else none):=by
 show (if 0 <= q ∧ q < ((2:Nat):Int) then (if (aD ds).length = 2 then (aD ds)[q.toNat]?.bind k else none) else none) = _
 unfold qE
 have hl:(aD ds).length = ds.length:=aC ds
 rw [hl]
 by_cases h2:ds.length = 2
 ·rw [if_pos h2,if_pos h2]
  match ds,h2 with
  | [a,b],_ =>
   by_cases q0:q = 0
   ·subst q0
    rfl
   ·rw [if_neg q0]
    by_cases q1:q = 1
    ·subst q1
     rfl
    ·rw [if_neg q1,if_neg (by omega)]
 ·rw [if_neg h2,if_neg h2]
  split <;> rfl
theorem aAj (n:Bool) (x:eG) (k:List Nat->Option β):GF d (.isnp n x) fr bl k = k []:=rfl
theorem M6 (n s:Nat) (x i:eG) (k:List Nat->Option β):GF d (.indexArr n s x i) fr bl k = fB fr x fun v=>DK v k:=aDM _ _ _ rfl rfl rfl
def CD (bl:List (Nat × Option aR)) (cs:List V) (k:List D->List (Nat × Option aR)->Option β) (y:Option β):Option β:=match cC (pG (lk bl none)) cs with
 | some ds=>k ds (cs.flatMap (FB (lk bl none)))
 | none=>y
theorem Z6 (id off:Nat) (c:V) (cs:List V) (k:V->List (Nat × Option aR)->Option β) (y:Option β):aGA id off (some (.box (c :: cs))) bl k y = CD bl (c :: cs) (fun ds f=>k (.d (.ptr ds off)) ((id,some (.fbox ds)) :: f)) y:=rfl
theorem YN (k:List D->List (Nat × Option aR)->Option β) (y:Option β):CD bl [] k y = k [] []:=rfl
theorem JN (v:V) (cs:List V) (k:List D->List (Nat × Option aR)->Option β) (y:Option β):CD bl (v :: cs) k y = match pG (lk bl none) v with
 | some x=>CD bl cs (fun ds f=>k (x :: ds) (FB (lk bl none) v ++ f)) y
 | none=>y:=by
 unfold CD
 rw [List.flatMap_cons]
 simp only [cC]
 cases pG (lk bl none) v with
 | none=>rfl
 | some x =>
  dsimp only
  cases cC (pG (lk bl none)) cs <;> rfl
theorem aDT (x:D) (cs:List V) (k:List D->List (Nat × Option aR)->Option β) (y:Option β):CD bl (.d x :: cs) k y = CD bl cs (fun ds f=>k (x :: ds) f) y:=by
 rw [JN]
 rfl
def aBK (id ver:Nat) (b:Option aR) (bl:List (Nat × Option aR)) (cs:List V) (k:List D->List (Nat × Option aR)->Option β) (y:Option β):Option β:=match b with
 | some (.rows v _ _ rows)=>if ver = v then CD bl cs (fun ds f=>k (.sl rows :: ds) ((id,some (.froz v rows)) :: f)) y else y
 | some (.froz v rows)=>if ver = v then CD bl cs (fun ds f=>k (.sl rows :: ds) f) y else y
 | _=>y
theorem YW (id ver:Nat) (cs:List V) (k:List D->List (Nat × Option aR)->Option β) (y:Option β):CD bl (.own id ver :: cs) k y = e8 bl id fun b=>aBK id ver b bl cs k y:=by
 rw [JN]
 unfold e8 aBK
 simp only [pG,FB]
 generalize lk bl none id = b
 cases b with
 | none=>rfl
 | some b =>
  cases b with
  | rows v e s r =>
   dsimp only
   by_cases hv:ver = v
   ·rw [if_pos hv,if_pos hv]; rfl
   ·rw [if_neg hv,if_neg hv]
  | froz v r =>
   dsimp only
   by_cases hv:ver = v
   ·rw [if_pos hv,if_pos hv]; rfl
   ·rw [if_neg hv,if_neg hv]
  | _=>rfl
theorem S7 (id v e s:Nat) (rows:List (List D)) (cs:List V) (k:List D->List (Nat × Option aR)->Option β) (y:Option β):aBK id v (some (.rows v e s rows)) bl cs k y = CD bl cs (fun ds f=>k (.sl rows :: ds) ((id,some (.froz v rows)) :: f)) y:=if_pos rfl
theorem TY (off id f:Nat) (vs:List V) (c:V) (cs:List V) (kw:V->List (Nat × Option aR)->Option β):gD 1 off id (.fn f vs) (some (.box (c :: cs))) kw = wX (c :: cs) off (.fn f vs) fun l=>kw .any [(id,some (.box l))]:=C6 off id _ c cs rfl rfl
theorem ZB (i:Nat) (l:List V):rZ i ([] ++ l) = rZ i l:=rfl
theorem aAN (i:Nat) (v:V) (l m:List V):rZ i ((v :: l) ++ m) = rZ i (v :: (l ++ m)):=rfl
end
end Vm
end Go.Proofs.Ytjjcaapdaldedaa
namespace Go.Proofs.Ytjjcaapdaldedaa
namespace Vm
open Go.RowKit
section
variable {β:Type} {T:xU} {d:Nat} {fr:List (Nat × V)} {bl:List (Nat × Option aR)} {k:V->Option β} {kw:V->List (Nat × Option aR)->Option β}
end
end Vm
end Go.Proofs.Ytjjcaapdaldedaa
