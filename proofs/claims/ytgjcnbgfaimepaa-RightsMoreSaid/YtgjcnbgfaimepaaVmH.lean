/- A map that is laid and ranged over, each entry written into a row of the call's own: in whatever order. The small machine, read from the front: a range over a map that is laid. A range over a map keyed by numbers, each round of which is code of the small machine: in whatever order. The small machine, read from the front: maps of bools keyed by numbers. The small machine, read from the front: maps of numbers keyed by numbers. The small machine, read from the front: pointers that may be nil, arrays of them. A slice is stored in a field of an element of a slice of one's own, and then one field of each of its elements is set through that field: the small machine sets the fields first, and stores then. Rules for the piece that sets a field of all elements of a slice that stands in a field of an element. 'slices.Sorted(maps.Keys(m))' as one piece: what it does to the state. -/
import Derived.Test.YtgjcnbgfaimepaaVmD
import Derived.Maps.RangeWalk
import Derived.WalkArith
import Derived.Test.YtgjcnbgfaimepaaVmF
import Derived.Laws.IdiomRangeMap
set_option linter.unusedVariables false
set_option linter.unusedSimpArgs false
namespace Go.Proofs.Ytgjcnbgfaimepaa
namespace Vm
open Go.RowKit Go.Maps
def aIM (dead:List Nat) (s:St):List (Nat × V):=dead.map (fun t=>(t,V.any)) ++ s.fr
def YN (cell:V->Option (List D)) (s:St):List (Nat × Nat)->List (List D)->Option (List (List D))
 | [],rows=>some rows
 | (k,t) :: l,rows=>match cell (s.get t) with
  | some row=>if k < rows.length then YN cell s l (rows.set k row) else none
  | none=>none
def aPd (out:Nat) (cell:V->Option (List D)) (ks:List (Nat × Nat)) (dead:List Nat) (s:St):Option St:=match s.get out with
 | .own id ver=>match s.blk id with
  | some (.rows v e size rows)=>if ver = v ∧ size = 2 then match YN cell s ks rows with
    | some rows'=>some ⟨aIM dead s,(id,some (.rows v e size rows')) :: s.bl⟩
    | none=>none
   else none
  | _=>none
 | _=>none
section
variable {P:Program} {nt:Nat} {w0:bQ} {w w' : World} {h0 h:Hp} {fr:Nat->V} {bl:Nat->Option aI} {a:Act} {hd:Nat->Value}
structure aDO (w0:bQ) (h:Hp) (bl:Nat->Option aI) (hd:Nat->Value) (g:Nat):Prop where
 own:w0.own g
 out:h g = none
 off:∀ id b,bl id = some b->b.live = true->eR (hd id) ≠ some g
theorem aDO.new (r:Rl nt w0 h0 fr bl a w h hd) {g:Nat} (hg:w.heap.size <= g):aDO w0 h bl hd g where
 own:=.inl (Nat.le_trans r.below.size hg)
 out:=HH r.hle hg
 off:=fun id b hb hl q=>by have:=((r.blk id b hb).num hl q).2.1; omega
theorem LY (r:Rl nt w0 h0 fr bl a w h hd) {d:Nat} (hd' : d < nt) (cv:Value) (t:Nat):(a.put (some d) cv).tmps.getD t undef = if d = t then cv else a.tmps.getD t undef:=by
 rw [GH a (some d) cv t nt r.tmps fun x e=>by cases e; exact hd']
 simp only [Option.some.injEq]
theorem I2 {ops:Array Oper} {Q:Exit->Act->World->Prop} {K:Act->World->Prop} {i:Nat} {o:Oper} (ho:ops[i]? = some o) (hg:o.guard = none) (h:o.wp P a w K Q):wpOp P ops Q i K a w:=by
 unfold wpOp
 rw [ho]
 simp only
 rw [if_pos (by simp [Region.wanted,hg])]
 exact .inl h
inductive aTL where
 | vm (so:aM)
 | ins (k t:Nat)
structure aO3 where
 it:Nat
 nx:Nat
 ok:Nat
 en:Nat
 k1:Nat
 v1:Nat
 kk:Nat
 vv:Nat
 d1:Nat
 d2:Nat
 d3:Nat
 dc:Nat
 da:Nat
 out:Nat
def aO3.slots (L:aO3):List Nat:=[L.nx,L.ok,L.en,L.k1,L.v1,L.kk,L.vv,L.d1,L.d2,L.d3,L.dc,L.da]
theorem aLs (r:Rl nt w0 h0 fr bl a w h hd) (hF:∀ t,w0.F t = none) {d:Nat} (hd' : d < nt) (cv:Value) (v:V) (hv:R3 h hd bl cv v) :
  ∃ a',a.put (some d) cv = a' ∧ Rl nt w0 h0 (dU fr (some d) v) bl a' w h hd ∧ a'.tmps.getD d undef = cv ∧ ∀ t,t ≠ d->a'.tmps.getD t undef = a.tmps.getD t undef :=
 ⟨_,rfl,r.put0 (some d) cv v (fun x e=>by cases e; exact ⟨hd',hF d⟩) hv,by rw [LY r hd',if_pos rfl],fun t ht=>by rw [LY r hd',if_neg (Ne.symm ht)]⟩
def aOb:Code->Code
 | .seq a _=>a
 | c=>c
def ES:Code->Code
 | .seq _ b=>b
 | c=>c
def KG:Code->Array Oper
 | .region _ ops _=>ops
 | _=>#[]
theorem aBS {P:Program} {e:TypeId} {z:Value} {s b:Nat} (h:(P.info? e).map (fun i=>(i.zero,i.size,i.bytes)) = some (some z,s,b)):∃ i,P.info? e = some i ∧ i.zero = some z ∧ i.size = s ∧ i.bytes = b:=by
 cases hi:P.info? e with
 | none=>rw [hi] at h; cases h
 | some i=>rw [hi] at h; simp only [Option.map_some,Option.some.injEq,Prod.mk.injEq] at h; exact ⟨i,rfl,h.1,h.2.1,h.2.2⟩
def aL3 {α:Type} (Q:α->Prop):List α->Prop
 | []=>True
 | x :: l=>Q x ∧ aL3 Q l
theorem aL3.all {α:Type} {Q:α->Prop}:∀ {l:List α},aL3 Q l->∀ x ∈ l,Q x
 | [],_,x,h=>by simp at h
 | y :: l,q,x,h=>by
  rcases List.mem_cons.1 h with rfl | h
  ·exact q.1
  ·exact aL3.all q.2 x h
end
end Vm
end Go.Proofs.Ytgjcnbgfaimepaa
namespace Go.Proofs.Ytgjcnbgfaimepaa
namespace Vm
open Go.RowKit
section
variable {β:Type} {T:vA} {fr:List (Nat × V)} {bl:List (Nat × Option aI)}
def aBg (ver:Nat) (b:Option aI) (g:Nat->List (List D)->Option β):Option β:=match b with
 | some (.rows v e size rows)=>if ver = v ∧ size = 2 then g e rows else none
 | _=>none
theorem WM (v e:Nat) (rows:List (List D)) (g:Nat->List (List D)->Option β):aBg v (some (.rows v e 2 rows)) g = g e rows:=if_pos ⟨rfl,rfl⟩
def WV (cell:V->Option (List D)) (fr:List (Nat × V)):List (Nat × Nat)->List (List D)->(List (List D)->Option β)->Option β
 | [],rows,g=>g rows
 | (k,t) :: l,rows,g=>gZ fr t fun v=>(cell v).bind fun row=>if k < rows.length then WV cell fr l (rows.set k row) g else none
theorem aEi (cell:V->Option (List D)) (rows:List (List D)) (g:List (List D)->Option β):WV cell fr [] rows g = g rows:=rfl
theorem X3 (cell:V->Option (List D)) (b:List (Nat × Option aI)) (g:List (List D)->Option β):∀ (l:List (Nat × Nat)) (rows:List (List D)),WV cell fr l rows g = (YN cell ⟨fr,b⟩ l rows).bind g
 | [],rows=>rfl
 | (k,t) :: l,rows=>by
  simp only [WV,YN,gZ]
  rw [B7]
  cases cell (lk fr .any t) with
  | none=>rfl
  | some row =>
   simp only [Option.bind_some,X3 cell b g l]
   split <;> rfl
def zQ:List Nat->List (Nat × V)->List (Nat × V)
 | [],fr=>fr
 | t :: l,fr=>(t,.any) :: zQ l fr
theorem R6:zQ [] fr = fr:=rfl
theorem P8 (t:Nat) (l:List Nat):zQ (t :: l) fr = (t,.any) :: zQ l fr:=rfl
theorem ZG (b:List (Nat × Option aI)):∀ l:List Nat,aIM l ⟨fr,b⟩ = zQ l fr
 | []=>rfl
 | t :: l=>by
  show (t,V.any) :: (aIM l ⟨fr,b⟩) = _
  rw [ZG b l]
  rfl
theorem aHa (out:Nat) (cell:V->Option (List D)) (ks:List (Nat × Nat)) (dead:List Nat) (k:Ex->St->Option β):bR T (.hand (aPd out cell ks dead)) ⟨fr,bl⟩ k = gZ fr out fun v=>U6 v fun id ver=>aY bl id fun b=>aBg ver b fun e rows=>WV cell fr ks rows fun rows'=>k .normal ⟨zQ dead fr,(id,some (.rows ver e 2 rows')) :: bl⟩:=by
 unfold bR
 rw [DY]
 unfold aPd gZ
 rw [B7]
 cases lk fr .any out with
 | own id ver =>
  simp only [U6,aY,aBg]
  rw [BP]
  cases lk bl none id with
  | none=>rfl
  | some b =>
   cases b with
   | rows v e size rows =>
    simp only
    split
    ·rename_i hc
     obtain ⟨rfl,rfl⟩:=hc
     rw [X3 cell bl]
     cases YN cell ⟨fr,bl⟩ ks rows with
     | none=>rfl
     | some rows'=>simp only [Option.map_some,Option.bind_some,ZG]
    ·rfl
   | _=>rfl
 | _=>rfl
def aTd (v:V) (g:Int->Option β):Option β:=match v with
 | .d (.int .i64 n)=>g n
 | _=>none
def aSG (v:V) (g:Bool->Option β):Option β:=match v with
 | .d (.bool b)=>g b
 | _=>none
theorem aQl (n:Int) (g:Int->Option β):aTd (.d (.int .i64 n)) g = g n:=rfl
theorem aQj (b:Bool) (g:Bool->Option β):aSG (.d (.bool b)) g = g b:=rfl
end
end Vm
end Go.Proofs.Ytgjcnbgfaimepaa
namespace Go.Proofs.Ytgjcnbgfaimepaa
namespace Vm
open Go.RowKit Go.Maps
def bQ.now (b:bQ) (w:World) (rr it:Nat) (itv:Value):bQ:={ w with L:=fun g=>b.own g ∧ g ≠ rr ∧ g < w.heap.size,F:=fun i=>if i = it then some itv else none,O:=b.O,M:=b.M }
section
variable {P:Program} {nt:Nat} {w0:bQ} {w w' : World} {h0 h h' : Hp} {fr fr' : Nat->V} {bl bl' : Nat->Option aI} {a a' : Act} {hd hd' : Nat->Value} {rr it:Nat} {itv:Value}
theorem T0 {b:bQ} (hs:b.heap.size <= w.heap.size) {g:Nat} (h:(b.now w rr it itv).own g):b.own g:=by
 rcases h with h | h
 ·exact .inl (Nat.le_trans hs h)
 ·exact h.1
theorem aBF {b:bQ} (hlt:rr < w.heap.size):¬ (b.now w rr it itv).own rr:=by
 rintro (h | h)
 ·exact absurd h (Nat.not_le_of_lt hlt)
 ·exact h.2.1 rfl
theorem BR.rebase {b0 b1:bQ} {id:Nat} {b:aI} (hown:b.live = true->∀ g,eR (hd id) = some g->b0.own g) (hO:b0.O = b1.O) (r:BR b1 w h hd bl id b):BR b0 w h hd bl id b:=by
 cases b with
 | box cs =>
  obtain ⟨g,arr,e,h1,h2,h3⟩:=r
  exact ⟨g,arr,e,h1,hown rfl g (by rw [h1]; rfl),h3⟩
 | rows ver e size rows =>
  obtain ⟨h1,h2,h3,h4⟩:=r
  exact ⟨h1,h2,h3,fun g hg=>⟨(h4 g hg).1,hown rfl g hg⟩⟩
 | froz ver rows=>exact r
 | fbox cs=>exact r
 | mp ek m =>
  obtain ⟨g,h1,h2,h3⟩:=r
  exact ⟨g,h1,hown rfl g (by rw [h1]; rfl),h3⟩
 | fmp ek m=>exact r
 | outer cs =>
  intro j x hx
  rw [hO]
  exact r j x hx
theorem Rl.now (r:Rl nt w0 h0 fr bl a w h hd) (hS:aDO w0 h bl hd rr) (hit:a.tmps.getD it undef = itv):Rl nt (w0.now w rr it itv) h fr bl a w h hd where
 tmps:=r.tmps
 defers:=r.defers
 fixed:=fun t v e=>by
  simp only [bQ.now] at e
  split at e
  ·rename_i q; cases e; rw [q]; exact hit
  ·cases e
 below:=yP.refl _ _
 hle:=r.hle
 h0le:=Hp.le.refl _
 hbase:=fun _ _=>rfl
 frame:=r.frame
 blk:=fun id b hb=>BR.rebase (b1:=w0) (fun hl g hg=>by
  obtain ⟨q1,q2,_⟩:=(r.blk id b hb).num hl hg
  exact .inr ⟨q1,fun e=>hS.off id b hb hl (e ▸ hg),q2⟩) rfl (r.blk id b hb)
 sep:=r.sep
theorem Rl.back (hF:∀ t,w0.F t = none) (r:Rl nt w0 h0 fr bl a w h hd) (r' : Rl nt (w0.now w rr it itv) h fr' bl' a' w' h' hd'):Rl nt w0 h0 fr' bl' a' w' h' hd' where
 tmps:=r'.tmps
 defers:=r'.defers
 fixed:=fun t v e=>by rw [hF t] at e; cases e
 below:=r.below.trans ⟨r'.below.os,r'.below.tape,r'.below.output,r'.below.size,fun k hk=>r'.below.block k fun q=>hk (T0 r.below.size q)⟩
 hle:=r'.hle
 h0le:=r.h0le.trans r'.h0le
 hbase:=fun b hb=>(r'.hbase b fun q=>hb (T0 r.below.size q)).trans (r.hbase b hb)
 frame:=r'.frame
 blk:=fun id b hb=>BR.rebase (b1:=w0.now w rr it itv) (fun hl g hg=>T0 r.below.size ((r'.blk id b hb).num hl hg).1) rfl (r'.blk id b hb)
 sep:=r'.sep
theorem aDO.back (hS:aDO w0 h bl hd rr) (hlt:rr < w.heap.size) (r' : Rl nt (w0.now w rr it itv) h fr' bl' a' w' h' hd'):aDO w0 h' bl' hd' rr ∧ w'.heap[rr]? = w.heap[rr]? :=
 ⟨⟨hS.own,(r'.hbase rr (aBF hlt)).trans hS.out,fun id b hb hl q=>aBF hlt ((r'.blk id b hb).num hl q).1⟩,r'.below.block rr (aBF hlt)⟩
structure aCO where
 it:Nat
 nx:Nat
 ok:Nat
 en:Nat
 k1:Nat
 kk:Nat
def aCO.slots (L:aCO):List Nat:=[L.nx,L.ok,L.en,L.k1,L.kk]
structure aTP (L:aCO) (oN oX e0 e1 e2:Oper):Prop where
 hN:oN.guard = none ∧ oN.op = .next (.tmp L.it) false ∧ oN.dst = some L.nx
 hX:oX.guard = none ∧ oX.op = .extract (.tmp L.nx) 0 ∧ oX.dst = some L.ok
 h0:e0.guard = none ∧ e0.op = .entry (.tmp L.it) ∧ e0.dst = some L.en
 h1:e1.guard = none ∧ e1.op = .extract (.tmp L.en) 0 ∧ e1.dst = some L.k1
 h2:e2.guard = none ∧ (e2.op = .assign (.tmp L.k1) ∨ e2.op = .move (.tmp L.k1)) ∧ e2.dst = some L.kk
def R5 (l:List (Int × ML)) (k:Int):Bool:=l.any fun p=>decide (p.1 = k)
structure aTH (ek0:Nat) (C:Nat->List D->Option D) (n m:Nat) (L:aCO) (sc:aH) (s s2:St):Prop where
 ex:∃ (ek:Nat) (l:List (Int × ML)) (Inv:(Int->Bool)->(Nat->V)->(Nat->Option aI)->Prop),(LR m s).get m = .d (.mp ek l) ∧ (ek = ek0 ∨ ek = 2) ∧
  (∀ left fr bl fr',Inv left fr bl->(∀ t,t ∉ L.it :: L.slots->fr' t = fr t)->Inv left fr' bl) ∧
  (∀ left (s:St) (k:Int),lP k->Inv left s.get s.blk->left k = true->s.get L.kk = .d (.int .i64 k)->∃ s',aO C n sc s = some (.normal,s') ∧ Inv (fun z=>left z && !decide (z = k)) s'.get s'.blk) ∧
  Inv (fun k=>R5 l k) (LR m s).get (LR m s).blk ∧
  ∀ s' : St,Inv (fun _=>false) s'.get s'.blk->(∀ t,s2.get t = .any ∨ s2.get t = s'.get t) ∧ s2.blk = s'.blk
def UF (l m:List (Int × ML)):List (Int × ML):=m.filter fun p=>!R5 l p.1
def CP (dead:List Nat) (fr:List (Nat × V)):List (Nat × V):=dead.map (fun t=>(t,V.any)) ++ fr
def aC0 (ek0 m inn:Nat) (dead:List Nat) (s:St):Option St:=match (LR m s).get m,(LR m s).get inn with
 | .d (.mp ek l),.mp id=>match (LR m s).blk id with
  | some (.mp ek' l2)=>if (ek = ek0 ∨ ek = 2) ∧ ek' = ek0 then some ⟨CP dead (LR m s).fr,(id,some (.mp ek' (UF l l2))) :: (LR m s).bl⟩ else none
  | _=>none
 | .d (.mp ek l),.d (.mp 2 [])=>if ek = ek0 ∨ ek = 2 then some ⟨CP dead (LR m s).fr,(LR m s).bl⟩ else none
 | _,_=>none
def JL (l:List (Int × ML)) (n:Nat):Bool:=l.all fun p=>decide (0 <= p.1) && decide (p.1.toNat < n)
def X4 (l:List (Int × ML)) (rows:List (List D)):List (List D):=rows.mapIdx fun i row=>if R5 l (i:Int) = true then [.bool true] else row
def aCF (ek0 m out:Nat) (dead:List Nat) (s:St):Option St:=match (LR m s).get m,(LR m s).get out with
 | .d (.mp ek l),.own id ver=>match (LR m s).blk id with
  | some (.rows v e size rows)=>if (ek = ek0 ∨ ek = 2) ∧ ver = v ∧ size = 1 ∧ JL l rows.length = true ∧ sized 1 rows = true then some ⟨CP dead (LR m s).fr,(id,some (.rows v e size (X4 l rows))) :: (LR m s).bl⟩ else none
  | _=>none
 | _,_=>none
end
def aTn:Code->Code
 | .block _ c=>c
 | .loop c=>c
 | c=>c
section
variable {P:Program} {nt:Nat}
theorem aX.cond {co:Operand} {o:bD} {c d:Code} {x y:aH} (h0:gC co = some o) (h1:aX P nt c x) (h2:aX P nt d y):aX P nt (.cond co c d) (.cond o x y):=by
 intro C hC n w0 h0' s s' ex a w h hd Q hF he r hQ
 have hc:=aT r.frame h0
 simp only [aO] at he
 split at he
 ·rename_i hb
  rw [hb] at hc
  exact wp_cond_true (jC hc) (h1 C hC n w0 h0' s s' ex a w h hd Q hF he r hQ)
 ·rename_i hb
  rw [hb] at hc
  exact wp_cond_false (jC hc) (h2 C hC n w0 h0' s s' ex a w h hd Q hF he r hQ)
 ·cases he
theorem aX.block {id:Nat} {c:Code} {x:aH} (h1:aX P nt c x):aX P nt (.block id c) (.block id x):=by
 intro C hC n w0 h0 s s' ex a w h hd Q hF he r hQ
 refine wp_block ?_
 simp only [aO] at he
 split at he
 ·rename_i id'' s1 he1
  refine h1 C hC n w0 h0 s s1 (.exit id'') a w h hd _ hF he1 r fun a' w' h' hd' r'=>?_
  simp only [Ex.go,Exit.inBlock]
  split at he
  ·rename_i hid
   cases he
   rw [if_pos hid]
   exact hQ _ _ _ _ r'
  ·rename_i hid
   cases he
   rw [if_neg hid]
   exact hQ _ _ _ _ r'
 ·rename_i hne
  refine h1 C hC n w0 h0 s s' ex a w h hd _ hF he r fun a' w' h' hd' r'=>?_
  cases ex with
  | normal=>exact hQ _ _ _ _ r'
  | exit id=>exact absurd he (hne _ _)
  | ret=>exact hQ _ _ _ _ r'
theorem aX.loop {c:Code} {x:aH} (h1:aX P nt c x):aX P nt (.loop c) (.loop x):=by
 intro C hC n w0 h0 s s' ex a w h hd Q hF he r hQ
 simp only [aO] at he
 refine OZ (fun k a w=>∃ s h hd,pV (aO C n x) k s = some (ex,s') ∧ Rl nt w0 h0 s.get s.blk a w h hd) (fun a w ⟨s,h,hd,q,_⟩=>by simp [pV] at q) ?_ n a w ⟨s,h,hd,he,r⟩
 rintro k a w ⟨s,h,hd,q,r⟩
 simp only [pV] at q
 split at q
 ·rename_i s1 he1
  exact h1 C hC n w0 h0 s s1 .normal a w h hd _ hF he1 r fun a' w' h' hd' r'=>⟨s1,h',hd',q,r'⟩
 ·rename_i hne
  refine h1 C hC n w0 h0 s s' ex a w h hd _ hF q r fun a' w' h' hd' r'=>?_
  cases ex with
  | normal=>exact absurd q (hne _)
  | exit id=>exact hQ _ _ _ _ r'
  | ret=>exact hQ _ _ _ _ r'
end
end Vm
end Go.Proofs.Ytgjcnbgfaimepaa
namespace Go.Proofs.Ytgjcnbgfaimepaa
namespace Vm
open Go.RowKit
abbrev MB:=List (Int × Bool)
def mB (m:MB):List (Int × ML):=m.map fun p=>(p.1,ML.b p.2)
def eB:Option MB->D
 | none=>.mp 2 []
 | some m=>.mp 1 (mB m)
def inM (m:MB) (k:Int):Bool:=m.any fun p=>decide (p.1 = k)
def aTe (k:Int) (z:Bool):Option MB->Bool
 | none=>z
 | some m=>yN k z m
def aPI (l m:MB):MB:=m.filter fun p=>!inM l p.1
def aTb (l:Option MB) (m:MB):MB:=match l with
 | none=>m
 | some l=>aPI l m
def aHg (l:MB) (n:Nat):Bool:=l.all fun p=>decide (0 <= p.1) && decide (p.1.toNat < n)
def aI3 (l:MB) (xs:List Bool):List Bool:=xs.mapIdx fun i b=>if inM l (i:Int) = true then true else b
theorem aKV (k:Int) (b:Bool):∀ m:MB,A6 k (ML.b b) (mB m) = mB (A6 k b m)
 | []=>rfl
 | y :: r=>by
  show (if k < y.1 then _ else _) = mB (if k < y.1 then _ else _)
  split
  ·rfl
  ·show (y.1,ML.b y.2) :: A6 k (.b b) (mB r) = (y.1,ML.b y.2) :: mB (A6 k b r)
   rw [aKV k b r]
theorem aJN (k:Int) (m:MB):CA k (mB m) = mB (CA k m):=by
 unfold CA mB
 rw [List.filter_map]
 rfl
theorem aQd (k:Int) (b:Bool) (m:MB):GB k (ML.b b) (mB m) = mB (GB k b m):=by
 unfold GB
 rw [aJN,aKV]
theorem aIE (k:Int) (z:Bool) (m:MB):yN k (ML.b z) (mB m) = .b (yN k z m):=by
 unfold yN mB
 rw [List.find?_map]
 have e:(fun p:Int × ML=>decide (p.1 = k)) ∘ (fun p:Int × Bool=>(p.1,ML.b p.2)) = fun p:Int × Bool=>decide (p.1 = k):=rfl
 rw [e]
 cases m.find? fun p=>decide (p.1 = k) <;> rfl
theorem aPo (m:MB):(mB m).length = m.length:=List.length_map ..
theorem aPb (l:MB) (k:Int):R5 (mB l) k = inM l k:=by
 unfold R5 mB inM
 rw [List.any_map]
 rfl
theorem aQe (l m:MB):UF (mB l) (mB m) = mB (aPI l m):=by
 unfold UF aPI
 simp only [aPb]
 show (m.map _).filter _ = _
 rw [List.filter_map]
 rfl
theorem aOV (m:MB):UF [] (mB m) = mB m:=by
 unfold UF R5
 simp
theorem aMd (l:MB) (n:Nat):JL (mB l) n = aHg l n:=by
 unfold JL mB aHg
 rw [List.all_map]
 rfl
theorem aQQ (l:MB) (xs:List Bool):X4 (mB l) (cM cB xs) = cM cB (aI3 l xs):=by
 unfold X4 aI3 cM
 apply List.ext_getElem?
 intro i
 simp only [List.getElem?_mapIdx,List.getElem?_map,aPb]
 cases xs[i]? with
 | none=>rfl
 | some b =>
  simp only [Option.map_some]
  cases inM l (i:Int) <;> rfl
theorem PO (m:MB):(mB m).isEmpty = true ∨ (1:Nat) = 1:=.inr rfl
section
variable {β:Type} {T:vA} {d:Nat} {fr:List (Nat × V)} {bl:List (Nat × Option aI)} {k:V->Option β} {kw:V->List (Nat × Option aI)->Option β}
theorem aFA (ek:Nat):qL T d (.mkmap ek) fr bl k kw = aY bl d fun b=>fK b (kw (.mp d) [(d,some (.mp ek []))]):=by
 unfold qL aY
 simp only [bZ]
 cases lk bl none d <;> rfl
theorem aB4:qL T d (.mkmap 1) fr bl k kw = aY bl d fun b=>fK b (kw (.mp d) [(d,some (.mp 1 (mB [])))]):=aFA 1
def aIn (ek:Nat) (m a x:V) (bl:List (Nat × Option aI)) (k:V->Option β) (kw:V->List (Nat × Option aI)->Option β):Option β:=DH (match m,H8 a,aGz x with
  | .mp id,some n,some x=>match lk bl none id with
   | some (.mp ek' l)=>if x.kind = ek ∧ ek' = ek ∧ l.length < 1000000000000 then some (.any,[(id,some (.mp ek (GB n x l)))]) else none
   | _=>none
  | _,_,_=>none) k kw
theorem aJF (ek:Nat) (m a x:bD):qL T d (.mput ek m a x) fr bl k kw = bM fr m fun mv=>bM fr a fun av=>bM fr x fun xv=>aIn ek mv av xv bl k kw:=by
 rw [iH]
 rfl
def UM (n:Int) (b:Bool) (id:Nat) (y:Option aI) (kw:V->List (Nat × Option aI)->Option β):Option β:=match y with
 | some (.mp 1 l)=>if l.length < 1000000000000 then kw .any [(id,some (.mp 1 (GB n (.b b) l)))] else none
 | _=>none
theorem aEp (id:Nat) (n:Int) (b:Bool):aIn 1 (.mp id) (.d (.int .i64 n)) (.d (.bool b)) bl k kw = if lP n then aY bl id fun y=>UM n b id y kw else none:=by
 unfold aIn
 simp only [H8,aGz]
 by_cases h:lP n
 ·rw [if_pos h,if_pos h]
  unfold aY
  simp only
  cases lk bl none id with
  | none=>rfl
  | some y =>
   cases y with
   | mp ek l =>
    simp only [ML.kind,true_and]
    by_cases e:ek = 1
    ·subst e
     simp only [true_and,UM]
     split <;> rfl
    ·rw [if_neg (fun q=>e q.1)]
     match ek,e with
     | 0,_=>rfl
     | 1,e=>exact absurd rfl e
     | _ + 2,_=>rfl
   | _=>rfl
 ·rw [if_neg h,if_neg h]
  rfl
theorem aEn (n:Int) (b:Bool) (id:Nat) (m:MB):UM n b id (some (.mp 1 (mB m))) kw = if m.length < 1000000000000 then kw .any [(id,some (.mp 1 (mB (GB n b m))))] else none:=by
 unfold UM
 simp only [aPo,aQd]
def NU (z:ML) (m a:V) (bl:List (Nat × Option aI)) (k:V->Option β):Option β:=match RL (lk bl none) m,H8 a with
 | some (ek,l),some n=>if l.isEmpty = true ∨ z.kind = ek then k (.d (yN n z l).d) else none
 | _,_=>none
theorem aHD (z:ML) (m a:bD):qL T d (.mget z m a) fr bl k kw = bM fr m fun mv=>bM fr a fun av=>NU z mv av bl k:=by
 unfold qL bM NU
 simp only [bZ]
 cases RL (lk bl none) (bC (lk fr .any) m) with
 | none=>rfl
 | some p =>
  cases H8 (bC (lk fr .any) a) with
  | none=>rfl
  | some n =>
   obtain ⟨ek,l⟩:=p
   simp only
   by_cases h:l.isEmpty = true ∨ z.kind = ek
   ·rw [if_pos h,if_pos h]
   ·rw [if_neg h,if_neg h]
def aCk (z:Bool) (n:Int) (y:Option aI) (k:V->Option β):Option β:=match y with
 | some (.mp ek l)=>if l.isEmpty = true ∨ 1 = ek then k (.d (yN n (.b z) l).d) else none
 | some (.fmp ek l)=>if l.isEmpty = true ∨ 1 = ek then k (.d (yN n (.b z) l).d) else none
 | _=>none
theorem aEc (z:Bool) (id:Nat) (n:Int):NU (.b z) (.mp id) (.d (.int .i64 n)) bl k = if lP n then aY bl id fun y=>aCk z n y k else none:=by
 unfold NU
 simp only [H8,RL]
 by_cases h:lP n
 ·rw [if_pos h,if_pos h]
  unfold aY
  cases lk bl none id with
  | none=>rfl
  | some y=>cases y <;> rfl
 ·rw [if_neg h,if_neg h]
  cases lk bl none id with
  | none=>rfl
  | some y=>cases y <;> rfl
theorem SJ (z:Bool) (n:Int) (m:MB):aCk z n (some (.mp 1 (mB m))) k = k (.d (.bool (yN n z m))):=by
 show (if (mB m).isEmpty = true ∨ (1:Nat) = 1 then k (.d (yN n (.b z) (mB m)).d) else none) = _
 rw [if_pos (PO m),aIE]
 rfl
theorem aAA (z:Bool) (n:Int) (m:MB):aCk z n (some (.fmp 1 (mB m))) k = k (.d (.bool (yN n z m))):=SJ z n m
theorem aCz (z:Bool) (n:Int) (m:MB):NU (.b z) (.d (.mp 1 (mB m))) (.d (.int .i64 n)) bl k = if lP n then k (.d (.bool (yN n z m))) else none:=by
 unfold NU
 simp only [H8,RL]
 by_cases h:lP n
 ·rw [if_pos h,if_pos h]
  show (if (mB m).isEmpty = true ∨ (1:Nat) = 1 then k (.d (yN n (.b z) (mB m)).d) else none) = _
  rw [if_pos (PO m),aIE]
  rfl
 ·rw [if_neg h,if_neg h]
theorem aLd (z:Bool) (n:Int) (x:Option MB):NU (.b z) (.d (eB x)) (.d (.int .i64 n)) bl k = if lP n then k (.d (.bool (aTe n z x))) else none:=by
 cases x with
 | none =>
  unfold NU
  simp only [H8,RL,eB]
  by_cases h:lP n
  ·rw [if_pos h,if_pos h]; rfl
  ·rw [if_neg h,if_neg h]
 | some m=>exact aCz z n m
def aHc (ek:Nat) (m a:V) (bl:List (Nat × Option aI)) (k:V->Option β) (kw:V->List (Nat × Option aI)->Option β):Option β:=DH (match m,H8 a with
  | .d (.mp 2 []),some _=>some (.any,[])
  | .mp id,some n=>match lk bl none id with
   | some (.mp ek' l)=>if ek' = ek then some (.any,[(id,some (.mp ek (CA n l)))]) else none
   | _=>none
  | _,_=>none) k kw
theorem aKQ (ek:Nat) (m a:bD):qL T d (.mdel ek m a) fr bl k kw = bM fr m fun mv=>bM fr a fun av=>aHc ek mv av bl k kw:=by
 rw [iH]
 rfl
def UG (n:Int) (id:Nat) (y:Option aI) (kw:V->List (Nat × Option aI)->Option β):Option β:=match y with
 | some (.mp ek l)=>if ek = 1 then kw .any [(id,some (.mp 1 (CA n l)))] else none
 | _=>none
theorem aFB (id:Nat) (n:Int):aHc 1 (.mp id) (.d (.int .i64 n)) bl k kw = if lP n then aY bl id fun y=>UG n id y kw else none:=by
 unfold aHc
 simp only [H8]
 by_cases h:lP n
 ·rw [if_pos h,if_pos h]
  unfold aY
  simp only
  cases lk bl none id with
  | none=>rfl
  | some y =>
   cases y with
   | mp ek l =>
    simp only [UG]
    split <;> rfl
   | _=>rfl
 ·rw [if_neg h,if_neg h]
  rfl
theorem aF7 (n:Int) (id:Nat) (m:MB):UG n id (some (.mp 1 (mB m))) kw = kw .any [(id,some (.mp 1 (mB (CA n m))))]:=by
 unfold UG
 simp only [if_true,aJN]
theorem aFn (i:Nat) (k:List V->Option β):uH (.mp i) k = k [.mp i]:=rfl
def d1M (id:Nat) (b:Option aI) (k:D->List (Nat × Option aI)->Option β):Option β:=match b with
 | some (.mp ek m)=>k (.mp ek m) [(id,some (.fmp ek m))]
 | some (.fmp ek m)=>k (.mp ek m) []
 | _=>none
theorem aPm (id ek:Nat) (m:List (Int × ML)) (k:D->List (Nat × Option aI)->Option β):d1M id (some (.mp ek m)) k = k (.mp ek m) [(id,some (.fmp ek m))]:=rfl
theorem aLT (id ek:Nat) (m:List (Int × ML)) (k:D->List (Nat × Option aI)->Option β):d1M id (some (.fmp ek m)) k = k (.mp ek m) []:=rfl
theorem aPv (id:Nat) (k:D->List (Nat × Option aI)->Option β):OP (.mp id) bl k = aY bl id fun b=>d1M id b k:=by
 unfold OP aY d1M
 simp only [iA,yX,qF,HP]
 generalize lk bl none id = b
 cases b with
 | none=>rfl
 | some b=>cases b <;> rfl
theorem aMl (id:Nat) (k:D->List (Nat × Option aI)->Option β):AB (.mp id) bl k = OP (.mp id) bl k:=rfl
theorem aHC (id:Nat) (cs:List V) (kk:List D->List (Nat × Option aI)->Option β):vI bl (.mp id :: cs) kk = OP (.mp id) bl fun x g=>vI bl cs fun ds f=>kk (x :: ds) (g ++ f):=by
 rw [LH]
 unfold OP
 simp only [aK,List.flatMap_cons,LH]
 cases iA (lk bl none) (.mp id) with
 | none=>rfl
 | some x =>
  cases aK (iA (lk bl none)) cs <;> rfl
theorem aL5 (id:Nat) (k:List D->List (Nat × Option aI)->Option β):LG (.mp id) bl k = OP (.mp id) bl fun x f=>k [x] f:=by
 unfold LG OP
 show (match aK (iA (lk bl none)) [.mp id] with | some row=>k row (yX (lk bl none) (.mp id)) | none=>none) = _
 simp only [aK]
 cases iA (lk bl none) (.mp id) <;> rfl
def n9:List V->Option β->Option β
 | [],y=>y
 | v :: l,y=>if v.noTup = true then n9 l y else none
theorem SI (y:Option β):∀ l:List V,n9 l y = if l.all V.noTup = true then y else none
 | []=>rfl
 | v :: l=>by
  by_cases h:v.noTup = true
  ·simp [n9,h,SI y l]
  ·simp [n9,h]
theorem aMJ (dst:Option Nat) (slots:List Nat) (cs:List V) (v u:V) (l:List V) (k:List (Nat × V)->Option β):SB dst slots cs (v :: u :: l) k = n9 (v :: u :: l) (k (L2 dst (.tup (v :: u :: l)) ++ slots.zip cs)):=by
 rw [QK,SI]
theorem aAJ (y:Option β):n9 [] y = y:=rfl
theorem aK1 (x:D) (l:List V) (y:Option β):n9 (.d x :: l) y = n9 l y:=rfl
theorem aGr (i:Nat) (l:List V) (y:Option β):n9 (.mp i :: l) y = n9 l y:=rfl
theorem ZU (i v:Nat) (l:List V) (y:Option β):n9 (.own i v :: l) y = n9 l y:=rfl
theorem aBp (i v:Nat) (l:List V) (y:Option β):n9 (.ptr i v :: l) y = n9 l y:=rfl
theorem aHL (l:List V) (y:Option β):n9 (.nil :: l) y = n9 l y:=rfl
theorem aA5 (cs l:List V) (y:Option β):n9 (.agg cs :: l) y = n9 l y:=rfl
theorem Y3 (ds:List D) (l:List V) (y:Option β):n9 (kB ds :: l) y = n9 l y:=rfl
def aMj (id:Nat) (b:Option aI) (k:V->List (Nat × Option aI)->Option β) (y:Option β):Option β:=match b with
 | some (.mp ek m)=>k (.d (.mp ek m)) [(id,some (.fmp ek m))]
 | some (.fmp ek m)=>k (.d (.mp ek m)) []
 | _=>y
theorem aNa (id:Nat) (k:V->List (Nat × Option aI)->Option β) (y:Option β):IM (.mp id) bl k y = aY bl id fun b=>aMj id b k y:=by
 unfold IM aY aMj
 simp only [qF,HP]
 generalize lk bl none id = b
 cases b with
 | none=>rfl
 | some b=>cases b <;> rfl
theorem aNi (id ek:Nat) (m:List (Int × ML)) (k:V->List (Nat × Option aI)->Option β) (y:Option β):aMj id (some (.mp ek m)) k y = k (.d (.mp ek m)) [(id,some (.fmp ek m))]:=rfl
theorem aGJ (id ek:Nat) (m:List (Int × ML)) (k:V->List (Nat × Option aI)->Option β) (y:Option β):aMj id (some (.fmp ek m)) k y = k (.d (.mp ek m)) []:=rfl
section
variable (keep:List Nat)
def PK (id:Nat) (b:Option aI) (k:V->Option β):Option β:=match b with
 | some (.mp _ _)=>eV keep id (k (.mp id)) (k .any)
 | some (.fmp ek m)=>k (.d (.mp ek m))
 | _=>k .any
theorem aIr (id:Nat):oB keep bl (.mp id) k = aY bl id fun b=>PK keep id b k:=by
 unfold oB aY PK eV
 simp only [FC,NV,rT]
 generalize lk bl none id = b
 cases b with
 | none=>rfl
 | some b=>cases b <;> first | rfl | (simp only; cases h:keep.contains id <;> simp)
theorem aES (id ek:Nat) (m:List (Int × ML)):PK keep id (some (.mp ek m)) k = eV keep id (k (.mp id)) (k .any):=rfl
theorem aAp (id ek:Nat) (m:List (Int × ML)):PK keep id (some (.fmp ek m)) k = k (.d (.mp ek m)):=rfl
theorem WU (id:Nat):PK keep id none k = k .any:=rfl
theorem aE7 (id:Nat) (cs:List V) (k:List V->Option β):qB keep bl (.mp id :: cs) k = oB keep bl (.mp id) fun v=>qB keep bl cs fun l=>k (v :: l):=by simp only [rI]; rfl
theorem aGD (ek:Nat) (m:List (Int × ML)) (k:Option aI->Option β):wG keep bl (some (.mp ek m)) k = k (some (.mp ek m)):=rfl
theorem aAi (ek:Nat) (m:List (Int × ML)) (k:Option aI->Option β):wG keep bl (some (.fmp ek m)) k = k none:=rfl
end
theorem aOQ (i:Nat) (k:List Nat->Option β):G8 (.mp i) k = k [i]:=rfl
theorem aIe (i:Nat) (k:List Nat->Option β):xQ bl (.mp i) k = k [i]:=rfl
theorem aFF (i:Nat) (cs:List V) (k:List Nat->Option β):qT bl (.mp i :: cs) k = qT bl cs fun l=>k (i :: l):=by simp only [uV]; rfl
theorem aDF (i:Nat) (cs:List V) (k:List Nat->Option β):qW (.mp i :: cs) k = qW cs fun l=>k (i :: l):=by simp only [uP]; rfl
theorem SS {m:Nat} {g:V->List (Nat × V)->List (Nat × Option aI)->Option St} {f:St->Option St} (hf:∀ s:St,f s = match (LR m s).get m with
  | .d x=>g (.d x) (LR m s).fr (LR m s).bl
  | _=>none) (k:Ex->St->Option β):bR T (.hand f) ⟨fr,bl⟩ k = gZ fr m fun v=>IM v bl (fun v' wr=>match g v' ((m,v') :: fr) (wr ++ bl) with
  | some s=>k .normal s
  | none=>none) none:=by
 unfold bR
 have hfr:LR m ⟨fr,bl⟩ = (match qF (lk bl none) (lk fr .any m) with
  | some d=>⟨(m,.d d) :: fr,HP (lk bl none) (lk fr .any m) ++ bl⟩
  | none=>⟨fr,bl⟩ : St):=rfl
 rw [DY,hf,hfr]
 unfold gZ IM
 have e:(⟨fr,bl⟩ : St).get m = lk fr .any m:=rfl
 generalize lk fr .any m = v at e
 cases h:qF (lk bl none) v with
 | none =>
  simp only
  rw [e]
  cases v with
  | d x=>cases h
  | _=>simp only [h]; rfl
 | some x =>
  simp only
  have e:(⟨(m,V.d x) :: fr,HP (lk bl none) v ++ bl⟩ : St).get m = .d x:=by simp [St.get,lk]
  rw [e]
  simp only [h]
  cases g (.d x) ((m,.d x) :: fr) (HP (lk bl none) v ++ bl) <;> rfl
def E7 (ek0:Nat) (v u:V) (bl:List (Nat × Option aI)) (kk:List (Nat × Option aI)->Option β):Option β:=match v,u with
 | .d (.mp ek l),.mp id=>match lk bl none id with
  | some (.mp ek' l2)=>if (ek = ek0 ∨ ek = 2) ∧ ek' = ek0 then kk [(id,some (.mp ek' (UF l l2)))] else none
  | _=>none
 | .d (.mp ek l),.d (.mp 2 [])=>if ek = ek0 ∨ ek = 2 then kk [] else none
 | _,_=>none
theorem HN (dead:List Nat) (fr:List (Nat × V)):CP dead fr = zQ dead fr:=by
 induction dead with
 | nil=>rfl
 | cons t l ih =>
  show (t,V.any) :: CP l fr = (t,V.any) :: zQ l fr
  rw [ih]
theorem XZ (ek0 m inn:Nat) (dead:List Nat) (k:Ex->St->Option β):bR T (.hand (aC0 ek0 m inn dead)) ⟨fr,bl⟩ k = gZ fr m fun v=>IM v bl (fun v' wr=>gZ ((m,v') :: fr) inn fun u=>E7 ek0 v' u (wr ++ bl) fun w2=>k .normal ⟨zQ dead ((m,v') :: fr),w2 ++ (wr ++ bl)⟩) none:=by
 rw [SS (g:=fun v fr bl=>E7 ek0 v (lk fr .any inn) bl fun w2=>some ⟨zQ dead fr,w2 ++ bl⟩) (fun s=>?_) k]
 ·unfold gZ
  refine congrArg (fun q=>IM (lk fr .any m) bl q none) ?_
  funext v' wr
  generalize lk ((m,v') :: fr) .any inn = u
  unfold E7
  cases v' with
  | d x =>
   cases x with
   | mp ek l =>
    cases u with
    | mp id =>
     simp only
     cases lk (wr ++ bl) none id with
     | none=>rfl
     | some y =>
      cases y with
      | mp ek' l2=>by_cases hc:(ek = ek0 ∨ ek = 2) ∧ ek' = ek0 <;> first | (simp only [if_pos hc]; done) | (simp only [if_neg hc]; done)
      | _=>rfl
    | d y =>
     cases y with
     | mp e2 l2 =>
      match e2,l2 with
      | 2,[]=>by_cases hc:ek = ek0 ∨ ek = 2 <;> first | (simp only [if_pos hc]; done) | (simp only [if_neg hc]; done)
      | 2,_ :: _=>rfl
      | 0,_=>rfl
      | 1,_=>rfl
      | _ + 3,_=>rfl
     | _=>rfl
    | _=>rfl
   | _=>rfl
  | _=>rfl
 ·unfold aC0 E7
  generalize LR m s = s1
  have e1:s1.get inn = lk s1.fr .any inn:=rfl
  rw [e1]
  cases s1.get m with
  | d x =>
   cases x with
   | mp ek l =>
    cases lk s1.fr .any inn with
    | mp id =>
     simp only
     have e2:s1.blk id = lk s1.bl none id:=rfl
     rw [e2]
     cases lk s1.bl none id with
     | none=>rfl
     | some y =>
      cases y with
      | mp ek' l2=>simp only [HN]; rfl
      | _=>rfl
    | d y =>
     cases y with
     | mp e2 l2 =>
      match e2,l2 with
      | 2,[]=>simp only [HN]; rfl
      | 2,_ :: _=>rfl
      | 0,_=>rfl
      | 1,_=>rfl
      | _ + 3,_=>rfl
     | _=>rfl
    | _=>rfl
   | _=>cases lk s1.fr .any inn <;> rfl
  | _=>cases lk s1.fr .any inn <;> rfl
def aC9 (l:List (Int × ML)) (id:Nat) (y:Option aI) (kk:List (Nat × Option aI)->Option β):Option β:=match y with
 | some (.mp ek' l2)=>if ek' = 1 then kk [(id,some (.mp 1 (UF l l2)))] else none
 | _=>none
theorem Y7 {ek:Nat} (h:ek = 1 ∨ ek = 2) (l:List (Int × ML)) (id:Nat) (kk:List (Nat × Option aI)->Option β):E7 1 (.d (.mp ek l)) (.mp id) bl kk = aY bl id fun y=>aC9 l id y kk:=by
 unfold E7 aY aC9
 simp only
 cases lk bl none id with
 | none=>rfl
 | some y =>
  cases y with
  | mp ek' l2 =>
   simp only
   by_cases e:ek' = 1
   ·subst e
    rw [if_pos ⟨h,rfl⟩,if_pos rfl]
   ·rw [if_neg (fun q=>e q.2),if_neg e]
  | _=>rfl
def aCR (x:Option MB) (id:Nat) (y:Option aI) (kk:List (Nat × Option aI)->Option β):Option β:=match x with
 | none=>aC9 [] id y kk
 | some l=>aC9 (mB l) id y kk
theorem aCB (l:MB) (id:Nat) (kk:List (Nat × Option aI)->Option β):E7 1 (.d (.mp 1 (mB l))) (.mp id) bl kk = aY bl id fun y=>aCR (some l) id y kk:=Y7 (.inl rfl) (mB l) id kk
theorem aC8 (id:Nat) (kk:List (Nat × Option aI)->Option β):E7 1 (.d (.mp 2 [])) (.mp id) bl kk = aY bl id fun y=>aCR none id y kk:=Y7 (.inr rfl) [] id kk
theorem aOJ (x:Option MB) (id:Nat) (kk:List (Nat × Option aI)->Option β):E7 1 (.d (eB x)) (.mp id) bl kk = aY bl id fun y=>aCR x id y kk:=by
 cases x with
 | none=>exact aC8 id kk
 | some l=>exact aCB l id kk
theorem aHo (l:MB) (kk:List (Nat × Option aI)->Option β):E7 1 (.d (.mp 1 (mB l))) (.d (.mp 2 [])) bl kk = kk []:=rfl
theorem aIa (kk:List (Nat × Option aI)->Option β):E7 1 (.d (.mp 2 [])) (.d (.mp 2 [])) bl kk = kk []:=rfl
theorem aJ8 (x:Option MB) (kk:List (Nat × Option aI)->Option β):E7 1 (.d (eB x)) (.d (.mp 2 [])) bl kk = kk []:=by cases x <;> rfl
theorem aIl (x:Option MB) (id:Nat) (m:MB) (kk:List (Nat × Option aI)->Option β):aCR x id (some (.mp 1 (mB m))) kk = kk [(id,some (.mp 1 (mB (aTb x m))))]:=by
 cases x with
 | none =>
  show (if (1:Nat) = 1 then kk [(id,some (.mp 1 (UF [] (mB m))))] else none) = _
  rw [if_pos rfl,aOV]
  rfl
 | some l =>
  show (if (1:Nat) = 1 then kk [(id,some (.mp 1 (UF (mB l) (mB m))))] else none) = _
  rw [if_pos rfl,aQe]
  rfl
def TB (ek0:Nat) (v u:V) (bl:List (Nat × Option aI)) (kk:List (Nat × Option aI)->Option β):Option β:=match v,u with
 | .d (.mp ek l),.own id ver=>match lk bl none id with
  | some (.rows v e size rows)=>if (ek = ek0 ∨ ek = 2) ∧ ver = v ∧ size = 1 ∧ JL l rows.length = true ∧ sized 1 rows = true then kk [(id,some (.rows v e size (X4 l rows)))] else none
  | _=>none
 | _,_=>none
theorem X9 (ek0 m out:Nat) (dead:List Nat) (k:Ex->St->Option β):bR T (.hand (aCF ek0 m out dead)) ⟨fr,bl⟩ k = gZ fr m fun v=>IM v bl (fun v' wr=>gZ ((m,v') :: fr) out fun u=>TB ek0 v' u (wr ++ bl) fun w2=>k .normal ⟨zQ dead ((m,v') :: fr),w2 ++ (wr ++ bl)⟩) none:=by
 rw [SS (g:=fun v fr bl=>TB ek0 v (lk fr .any out) bl fun w2=>some ⟨zQ dead fr,w2 ++ bl⟩) (fun s=>?_) k]
 ·unfold gZ
  refine congrArg (fun q=>IM (lk fr .any m) bl q none) ?_
  funext v' wr
  generalize lk ((m,v') :: fr) .any out = u
  unfold TB
  cases v' with
  | d x =>
   cases x with
   | mp ek l =>
    cases u with
    | own id ver =>
     simp only
     cases lk (wr ++ bl) none id with
     | none=>rfl
     | some y =>
      cases y with
      | rows v e size rows=>by_cases hc:(ek = ek0 ∨ ek = 2) ∧ ver = v ∧ size = 1 ∧ JL l rows.length = true ∧ sized 1 rows = true <;> first | (simp only [if_pos hc]; done) | (simp only [if_neg hc]; done)
      | _=>rfl
    | _=>rfl
   | _=>rfl
  | _=>rfl
 ·unfold aCF TB
  generalize LR m s = s1
  have e1:s1.get out = lk s1.fr .any out:=rfl
  rw [e1]
  cases s1.get m with
  | d x =>
   cases x with
   | mp ek l =>
    cases lk s1.fr .any out with
    | own id ver =>
     simp only
     have e2:s1.blk id = lk s1.bl none id:=rfl
     rw [e2]
     cases lk s1.bl none id with
     | none=>rfl
     | some y =>
      cases y with
      | rows v e size rows=>simp only [HN]; rfl
      | _=>rfl
    | _=>rfl
   | _=>cases lk s1.fr .any out <;> rfl
  | _=>cases lk s1.fr .any out <;> rfl
def T4 (l:List (Int × ML)) (id ver:Nat) (y:Option aI) (kk:List (Nat × Option aI)->Option β):Option β:=match y with
 | some (.rows v e size rows)=>if ver = v ∧ size = 1 ∧ JL l rows.length = true ∧ sized 1 rows = true then kk [(id,some (.rows v e size (X4 l rows)))] else none
 | _=>none
theorem aNs (l:MB) (id ver:Nat) (kk:List (Nat × Option aI)->Option β):TB 1 (.d (.mp 1 (mB l))) (.own id ver) bl kk = aY bl id fun y=>T4 (mB l) id ver y kk:=by
 unfold TB aY T4
 simp only
 cases lk bl none id with
 | none=>rfl
 | some y =>
  cases y with
  | rows v e size rows =>
   simp only
   by_cases h:ver = v ∧ size = 1 ∧ JL (mB l) rows.length = true ∧ sized 1 rows = true
   ·rw [if_pos h,if_pos ⟨.inl trivial,h⟩]
   ·rw [if_neg h,if_neg fun q=>h q.2]
  | _=>rfl
theorem WZ (l:MB) (id v e:Nat) (xs:List Bool) (kk:List (Nat × Option aI)->Option β):T4 (mB l) id v (some (.rows v e 1 (cM cB xs))) kk = if aHg l xs.length = true then kk [(id,some (.rows v e 1 (cM cB (aI3 l xs))))] else none:=by
 unfold T4
 simp only [uK,aMd,aQQ,WQ,true_and,and_true]
end
end Vm
end Go.Proofs.Ytgjcnbgfaimepaa
namespace Go.Proofs.Ytgjcnbgfaimepaa
namespace Vm
open Go.RowKit
abbrev MI:=List (Int × Int)
def mI (m:MI):List (Int × ML):=m.map fun p=>(p.1,ML.i p.2)
def eI:Option MI->D
 | none=>.mp 2 []
 | some m=>.mp 0 (mI m)
section
variable {β:Type} {T:vA} {d:Nat} {fr:List (Nat × V)} {bl:List (Nat × Option aI)} {k:V->Option β} {kw:V->List (Nat × Option aI)->Option β}
end
end Vm
end Go.Proofs.Ytgjcnbgfaimepaa
namespace Go.Proofs.Ytgjcnbgfaimepaa
namespace Vm
open Go.RowKit
section
variable {β α:Type} {T:vA} {d:Nat} {fr:List (Nat × V)} {bl:List (Nat × Option aI)} {k:V->Option β} {kw:V->List (Nat × Option aI)->Option β}
theorem aJe (i:Nat) (l:List V):mR i ([] ++ l) = mR i l:=rfl
theorem aKn (i:Nat) (v:V) (l m:List V):mR i ((v :: l) ++ m) = mR i (v :: (l ++ m)):=rfl
end
end Vm
end Go.Proofs.Ytgjcnbgfaimepaa
namespace Go.Proofs.Ytgjcnbgfaimepaa
namespace Vm
open Go.RowKit
abbrev JB (o:Oper) (op:Op) (d:Option Nat):Prop:=o.guard = none ∧ o.op = op ∧ o.dst = d
section
variable {P:Program} {w:World}
end
section
variable {P:Program} {nt:Nat} {w0:bQ} {w wV:World} {h0 h:Hp} {fr:Nat->V} {bl:Nat->Option aI} {a:Act} {hd:Nat->Value}
end
structure YD where
 tB:Nat
 tI:Nat
 tK:Nat
 q0:Nat
 c1:Nat
 c2:Nat
 c3:Nat
 c4:Nat
 c5:Nat
 c6:Nat
 ln:Nat
 ls:Nat
 e1:Nat
 e2:Nat
 e3:Nat
 e4:Nat
 e5:Nat
 e6:Nat
 k2:Nat
 ix:Nat
 fa:Nat
 u1:Nat
 u2:Nat
def YD.all (L:YD):List Nat:=[L.tK,L.q0,L.c1,L.c2,L.c3,L.c4,L.c5,L.c6,L.ln,L.ls,L.e1,L.e2,L.e3,L.e4,L.e5,L.e6,L.k2,L.ix,L.fa,L.u1,L.u2]
structure YD.Ok (L:YD):Prop where
 a1:L.q0 ∉ [L.c1,L.c2,L.c3,L.c4,L.c5,L.c6]
 a2:L.q0 ≠ L.ln
 k1:L.tK ≠ L.ls
 k2:L.tK ≠ L.ln
 k3:L.tK ∉ [L.c1,L.c2,L.c3,L.c4,L.c5,L.c6]
 k4:L.tK ≠ L.q0
 k5:L.tK ∉ [L.e1,L.e2,L.e3,L.e4,L.e5,L.e6]
 k6:L.tK ≠ L.fa
 k7:L.tK ≠ L.ix
 k8:L.tK ≠ L.k2
 e6:L.e6 ≠ L.k2
structure aO0 (P:Program) where
 tR:TypeId
 fR:Nat
 tS:TypeId
 tO:TypeId
 fO:Nat
 tC:TypeId
 tE:TypeId
 fE:Nat
 tW:TypeId
 fsR:Array Field
 fdR:Field
 fsO:Array Field
 fdO:Field
 fsE:Array Field
 fdE:Field
 iS:TypeInfo
 iO:TypeInfo
 iC:TypeInfo
 iE:TypeInfo
 iW:TypeInfo
 h1:P.underlying tR = some (.struct fsR) ∧ fsR[fR]? = some fdR ∧ P.info? fdR.type = some iS ∧ (iS.size == 0) = false
 h2:kH P tS = some false ∧ P.info? tS = some iS ∧ P.underlying tS = some (.slice tO) ∧ P.info? tO = some iO
 h3:P.underlying tO = some (.struct fsO) ∧ fsO[fO]? = some fdO ∧ P.info? fdO.type = some iC ∧ (iC.size == 0) = false
 h4:kH P tC = some false ∧ P.info? tC = some iC ∧ P.underlying tC = some (.slice tE) ∧ P.info? tE = some iE
 h5:P.underlying tE = some (.struct fsE) ∧ fsE[fE]? = some fdE ∧ P.info? fdE.type = some iW ∧ (iW.size == 0) = false
 h6:P.info? tW = some iW ∧ iW.size = 1
structure aPe {P:Program} (T:aO0 P) (tB tI c1 c2 c3 c4 c5 c6:Nat) (o1 o2 o3 o4 o5 o6:Oper):Prop where
 h1:JB o1 (.fieldAddr T.tR (.tmp tB) T.fR) (some c1)
 h2:JB o2 (.load T.tS (.tmp c1)) (some c2)
 h3:JB o3 (.move (.tmp tI)) (some c3)
 h4:JB o4 (.indexAddr T.tS (.tmp c2) (.tmp c3)) (some c4)
 h5:JB o5 (.fieldAddr T.tO (.tmp c4) T.fO) (some c5)
 h6:JB o6 (.load T.tC (.tmp c5)) (some c6)
 n32:c3 ≠ c2
section
variable {P:Program} {nt:Nat} {w0:bQ} {w wV:World} {h0 h:Hp} {fr:Nat->V} {bl:Nat->Option aI} {a:Act} {hd:Nat->Value}
end
structure aTG {P:Program} (T:aO0 P) (L:YD) (o0 o1 o2 o3 o4 o5 o6 o7 o8 p1 p2 p3 p4 p5 p6 p7 p8 p9 p10 x1 x2 x3:Oper) (tI:TypeId) (yI:TypeId) (cW c1:Operand):Prop where
 h0:JB o0 (.move (.tmp L.tK)) (some L.q0)
 h1:aPe T L.tB L.tI L.c1 L.c2 L.c3 L.c4 L.c5 L.c6 o1 o2 o3 o4 o5 o6
 h7:o7.guard = none ∧ o7.dst = some L.ln ∧ ∀ ρ:Operand->Value,execOp ρ o7 = (do pure (.value (← Builtin.len_ #[T.tC] o7.type #[ρ (.tmp L.c6)])))
 h8:JB o8 (.binOp .lss tI (.tmp L.q0) (.tmp L.ln) yI) (some L.ls)
 g1:aPe T L.tB L.tI L.e1 L.e2 L.e3 L.e4 L.e5 L.e6 p1 p2 p3 p4 p5 p6
 g7:JB p7 (.move (.tmp L.tK)) (some L.k2)
 g8:JB p8 (.indexAddr T.tC (.tmp L.e6) (.tmp L.k2)) (some L.ix)
 g9:JB p9 (.fieldAddr T.tE (.tmp L.ix) T.fE) (some L.fa)
 g10:JB p10 (.store T.tW (.tmp L.fa) cW) none
 f1:JB x1 (.move (.tmp L.tK)) (some L.u1)
 f2:JB x2 (.binOp .add tI (.tmp L.u1) c1 yI) (some L.u2)
 f3:JB x3 (.assign (.tmp L.u2)) (some L.tK)
 cW:∀ a:Act,a.eval cW = .bool false
 c1:∀ a:Act,a.eval c1 = .int .i64 1
section
variable {P:Program} {nt:Nat} {w0:bQ} {h0 h:Hp} {bl0:Nat->Option aI} {hd:Nat->Value}
end
section
variable {P:Program}
end
end Vm
end Go.Proofs.Ytgjcnbgfaimepaa
namespace Go.Proofs.Ytgjcnbgfaimepaa
namespace Vm
open Go.RowKit
section
variable {β:Type} {T:vA} {fr:List (Nat × V)} {bl:List (Nat × Option aI)}
end
end Vm
end Go.Proofs.Ytgjcnbgfaimepaa
namespace Go.Proofs.Ytgjcnbgfaimepaa
namespace Vm
open Go.RowKit
section
variable {β:Type} {T:vA} {d:Nat} {fr:List (Nat × V)} {bl:List (Nat × Option aI)} {k:V->Option β} {kw:V->List (Nat × Option aI)->Option β}
end
end Vm
end Go.Proofs.Ytgjcnbgfaimepaa
