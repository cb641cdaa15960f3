/- A map that is laid and ranged over, each entry written into a row of the call's own: in whatever order. The small machine, read from the front: a range over a map that is laid. A range over a map keyed by numbers, each round of which is code of the small machine: in whatever order. The small machine, read from the front: maps of bools keyed by numbers. The small machine, read from the front: maps of numbers keyed by numbers. The small machine, read from the front: pointers that may be nil, arrays of them. A slice is stored in a field of an element of a slice of one's own, and then one field of each of its elements is set through that field: the small machine sets the fields first, and stores then. Rules for the piece that sets a field of all elements of a slice that stands in a field of an element. 'slices.Sorted(maps.Keys(m))' as one piece: what it does to the state. -/
import Derived.Test.YtgjcnbgfaimepaaVmD
import Derived.Maps.RangeWalk
import Derived.WalkArith
import Derived.Test.YtgjcnbgfaimepaaVmF
import Derived.Laws.IdiomRangeMap
set_option linter.unusedVariables false
set_option linter.unusedSimpArgs false
namespace Go.Proofs.Ytgjcnbgfaimepaa
namespace Vm
open Go.RowKit Go.Maps
def aKm (dead:List Nat) (s:St):List (Nat × V):=dead.map (fun t=>(t,V.any)) ++ s.fr
def XE (cell:V->Option (List D)) (s:St):List (Nat × Nat)->List (List D)->Option (List (List D))
 | [],rows=>some rows
 | (k,t) :: l,rows=>match cell (s.get t) with
  | some row=>if k < rows.length then XE cell s l (rows.set k row) else none
  | none=>none
def aP7 (out:Nat) (cell:V->Option (List D)) (ks:List (Nat × Nat)) (dead:List Nat) (s:St):Option St:=match s.get out with
 | .own id ver=>match s.blk id with
  | some (.rows v e size rows)=>if ver = v ∧ size = 2 then match XE cell s ks rows with
    | some rows'=>some ⟨aKm dead s,(id,some (.rows v e size rows')) :: s.bl⟩
    | none=>none
   else none
  | _=>none
 | _=>none
section
variable {P:Program} {nt:Nat} {w0:b7} {w w' : World} {h0 h:Hp} {fr:Nat->V} {bl:Nat->Option aJ} {a:Act} {hd:Nat->Value}
structure aFj (w0:b7) (h:Hp) (bl:Nat->Option aJ) (hd:Nat->Value) (g:Nat):Prop where
 own:w0.own g
 out:h g = none
 off:∀ id b,bl id = some b->b.live = true->e8 (hd id) ≠ some g
theorem aFj.new (r:Rl nt w0 h0 fr bl a w h hd) {g:Nat} (hg:w.heap.size <= g):aFj w0 h bl hd g where
 own:=.inl (Nat.le_trans r.below.size hg)
 out:=IX r.hle hg
 off:=fun id b hb hl q=>by have:=((r.blk id b hb).num hl q).2.1; omega
theorem OC (r:Rl nt w0 h0 fr bl a w h hd) {d:Nat} (hd' : d < nt) (cv:Value) (t:Nat):(a.put (some d) cv).tmps.getD t undef = if d = t then cv else a.tmps.getD t undef:=by
 rw [G4 a (some d) cv t nt r.tmps fun x e=>by cases e; exact hd']
 simp only [Option.some.injEq]
theorem LN {ops:Array Oper} {Q:Exit->Act->World->Prop} {K:Act->World->Prop} {i:Nat} {o:Oper} (ho:ops[i]? = some o) (hg:o.guard = none) (h:o.wp P a w K Q):wpOp P ops Q i K a w:=by
 unfold wpOp
 rw [ho]
 simp only
 rw [if_pos (by simp [Region.wanted,hg])]
 exact .inl h
inductive aUY where
 | vm (so:aR)
 | ins (k t:Nat)
structure aQc where
 it:Nat
 nx:Nat
 ok:Nat
 en:Nat
 k1:Nat
 v1:Nat
 kk:Nat
 vv:Nat
 d1:Nat
 d2:Nat
 d3:Nat
 dc:Nat
 da:Nat
 out:Nat
def aQc.slots (L:aQc):List Nat:=[L.nx,L.ok,L.en,L.k1,L.v1,L.kk,L.vv,L.d1,L.d2,L.d3,L.dc,L.da]
theorem aOA (r:Rl nt w0 h0 fr bl a w h hd) (hF:∀ t,w0.F t = none) {d:Nat} (hd' : d < nt) (cv:Value) (v:V) (hv:R3 h hd bl cv v) :
  ∃ a',a.put (some d) cv = a' ∧ Rl nt w0 h0 (d7 fr (some d) v) bl a' w h hd ∧ a'.tmps.getD d undef = cv ∧ ∀ t,t ≠ d->a'.tmps.getD t undef = a.tmps.getD t undef :=
 ⟨_,rfl,r.put0 (some d) cv v (fun x e=>by cases e; exact ⟨hd',hF d⟩) hv,by rw [OC r hd',if_pos rfl],fun t ht=>by rw [OC r hd',if_neg (Ne.symm ht)]⟩
def aPd:Code->Code
 | .seq a _=>a
 | c=>c
def FM:Code->Code
 | .seq _ b=>b
 | c=>c
def ME:Code->Array Oper
 | .region _ ops _=>ops
 | _=>#[]
theorem RM {P:Program} {e:TypeId} {z:Value} {s b:Nat} (h:(P.info? e).map (fun i=>(i.zero,i.size,i.bytes)) = some (some z,s,b)):∃ i,P.info? e = some i ∧ i.zero = some z ∧ i.size = s ∧ i.bytes = b:=by
 cases hi:P.info? e with
 | none=>rw [hi] at h; cases h
 | some i=>rw [hi] at h; simp only [Option.map_some,Option.some.injEq,Prod.mk.injEq] at h; exact ⟨i,rfl,h.1,h.2.1,h.2.2⟩
def aPC {α:Type} (Q:α->Prop):List α->Prop
 | []=>True
 | x :: l=>Q x ∧ aPC Q l
theorem aPC.all {α:Type} {Q:α->Prop}:∀ {l:List α},aPC Q l->∀ x ∈ l,Q x
 | [],_,x,h=>by simp at h
 | y :: l,q,x,h=>by
  rcases List.mem_cons.1 h with rfl | h
  ·exact q.1
  ·exact aPC.all q.2 x h
end
end Vm
end Go.Proofs.Ytgjcnbgfaimepaa
namespace Go.Proofs.Ytgjcnbgfaimepaa
namespace Vm
open Go.RowKit
section
variable {β:Type} {T:vZ} {fr:List (Nat × V)} {bl:List (Nat × Option aJ)}
def aAR (ver:Nat) (b:Option aJ) (g:Nat->List (List D)->Option β):Option β:=match b with
 | some (.rows v e size rows)=>if ver = v ∧ size = 2 then g e rows else none
 | _=>none
theorem X3 (v e:Nat) (rows:List (List D)) (g:Nat->List (List D)->Option β):aAR v (some (.rows v e 2 rows)) g = g e rows:=if_pos ⟨rfl,rfl⟩
def ZF (cell:V->Option (List D)) (fr:List (Nat × V)):List (Nat × Nat)->List (List D)->(List (List D)->Option β)->Option β
 | [],rows,g=>g rows
 | (k,t) :: l,rows,g=>iK fr t fun v=>(cell v).bind fun row=>if k < rows.length then ZF cell fr l (rows.set k row) g else none
theorem aFW (cell:V->Option (List D)) (rows:List (List D)) (g:List (List D)->Option β):ZF cell fr [] rows g = g rows:=rfl
theorem X5 (cell:V->Option (List D)) (b:List (Nat × Option aJ)) (g:List (List D)->Option β):∀ (l:List (Nat × Nat)) (rows:List (List D)),ZF cell fr l rows g = (XE cell ⟨fr,b⟩ l rows).bind g
 | [],rows=>rfl
 | (k,t) :: l,rows=>by
  simp only [ZF,XE,iK]
  rw [CY]
  cases cell (lk fr .any t) with
  | none=>rfl
  | some row =>
   simp only [Option.bind_some,X5 cell b g l]
   split <;> rfl
def AZ:List Nat->List (Nat × V)->List (Nat × V)
 | [],fr=>fr
 | t :: l,fr=>(t,.any) :: AZ l fr
theorem US:AZ [] fr = fr:=rfl
theorem RP (t:Nat) (l:List Nat):AZ (t :: l) fr = (t,.any) :: AZ l fr:=rfl
theorem aAi (b:List (Nat × Option aJ)):∀ l:List Nat,aKm l ⟨fr,b⟩ = AZ l fr
 | []=>rfl
 | t :: l=>by
  show (t,V.any) :: (aKm l ⟨fr,b⟩) = _
  rw [aAi b l]
  rfl
theorem aIV (out:Nat) (cell:V->Option (List D)) (ks:List (Nat × Nat)) (dead:List Nat) (k:Ex->St->Option β):bU T (.hand (aP7 out cell ks dead)) ⟨fr,bl⟩ k = iK fr out fun v=>WQ v fun id ver=>bC bl id fun b=>aAR ver b fun e rows=>ZF cell fr ks rows fun rows'=>k .normal ⟨AZ dead fr,(id,some (.rows ver e 2 rows')) :: bl⟩:=by
 unfold bU
 rw [FJ]
 unfold aP7 iK
 rw [CY]
 cases lk fr .any out with
 | own id ver =>
  simp only [WQ,bC,aAR]
  rw [DD]
  cases lk bl none id with
  | none=>rfl
  | some b =>
   cases b with
   | rows v e size rows =>
    simp only
    split
    ·rename_i hc
     obtain ⟨rfl,rfl⟩:=hc
     rw [X5 cell bl]
     cases XE cell ⟨fr,bl⟩ ks rows with
     | none=>rfl
     | some rows'=>simp only [Option.map_some,Option.bind_some,aAi]
    ·rfl
   | _=>rfl
 | _=>rfl
def aUs (v:V) (g:Int->Option β):Option β:=match v with
 | .d (.int .i64 n)=>g n
 | _=>none
def aTS (v:V) (g:Bool->Option β):Option β:=match v with
 | .d (.bool b)=>g b
 | _=>none
theorem aRm (n:Int) (g:Int->Option β):aUs (.d (.int .i64 n)) g = g n:=rfl
theorem aQ4 (b:Bool) (g:Bool->Option β):aTS (.d (.bool b)) g = g b:=rfl
end
end Vm
end Go.Proofs.Ytgjcnbgfaimepaa
namespace Go.Proofs.Ytgjcnbgfaimepaa
namespace Vm
open Go.RowKit Go.Maps
def b7.now (b:b7) (w:World) (rr it:Nat) (itv:Value):b7:={ w with L:=fun g=>b.own g ∧ g ≠ rr ∧ g < w.heap.size,F:=fun i=>if i = it then some itv else none,O:=b.O,M:=b.M }
section
variable {P:Program} {nt:Nat} {w0:b7} {w w' : World} {h0 h h' : Hp} {fr fr' : Nat->V} {bl bl' : Nat->Option aJ} {a a' : Act} {hd hd' : Nat->Value} {rr it:Nat} {itv:Value}
theorem W8 {b:b7} (hs:b.heap.size <= w.heap.size) {g:Nat} (h:(b.now w rr it itv).own g):b.own g:=by
 rcases h with h | h
 ·exact .inl (Nat.le_trans hs h)
 ·exact h.1
theorem aC0 {b:b7} (hlt:rr < w.heap.size):¬ (b.now w rr it itv).own rr:=by
 rintro (h | h)
 ·exact absurd h (Nat.not_le_of_lt hlt)
 ·exact h.2.1 rfl
theorem BR.rebase {b0 b1:b7} {id:Nat} {b:aJ} (hown:b.live = true->∀ g,e8 (hd id) = some g->b0.own g) (hO:b0.O = b1.O) (r:BR b1 w h hd bl id b):BR b0 w h hd bl id b:=by
 cases b with
 | box cs =>
  obtain ⟨g,arr,e,h1,h2,h3⟩:=r
  exact ⟨g,arr,e,h1,hown rfl g (by rw [h1]; rfl),h3⟩
 | rows ver e size rows =>
  obtain ⟨h1,h2,h3,h4⟩:=r
  exact ⟨h1,h2,h3,fun g hg=>⟨(h4 g hg).1,hown rfl g hg⟩⟩
 | froz ver rows=>exact r
 | fbox cs=>exact r
 | mp ek m =>
  obtain ⟨g,h1,h2,h3⟩:=r
  exact ⟨g,h1,hown rfl g (by rw [h1]; rfl),h3⟩
 | fmp ek m=>exact r
 | outer cs =>
  intro j x hx
  rw [hO]
  exact r j x hx
theorem Rl.now (r:Rl nt w0 h0 fr bl a w h hd) (hS:aFj w0 h bl hd rr) (hit:a.tmps.getD it undef = itv):Rl nt (w0.now w rr it itv) h fr bl a w h hd where
 tmps:=r.tmps
 defers:=r.defers
 fixed:=fun t v e=>by
  simp only [b7.now] at e
  split at e
  ·rename_i q; cases e; rw [q]; exact hit
  ·cases e
 below:=AO.refl _ _
 hle:=r.hle
 h0le:=Hp.le.refl _
 hbase:=fun _ _=>rfl
 frame:=r.frame
 blk:=fun id b hb=>BR.rebase (b1:=w0) (fun hl g hg=>by
  obtain ⟨q1,q2,_⟩:=(r.blk id b hb).num hl hg
  exact .inr ⟨q1,fun e=>hS.off id b hb hl (e ▸ hg),q2⟩) rfl (r.blk id b hb)
 sep:=r.sep
theorem Rl.back (hF:∀ t,w0.F t = none) (r:Rl nt w0 h0 fr bl a w h hd) (r' : Rl nt (w0.now w rr it itv) h fr' bl' a' w' h' hd'):Rl nt w0 h0 fr' bl' a' w' h' hd' where
 tmps:=r'.tmps
 defers:=r'.defers
 fixed:=fun t v e=>by rw [hF t] at e; cases e
 below:=r.below.trans ⟨r'.below.os,r'.below.tape,r'.below.output,r'.below.size,fun k hk=>r'.below.block k fun q=>hk (W8 r.below.size q)⟩
 hle:=r'.hle
 h0le:=r.h0le.trans r'.h0le
 hbase:=fun b hb=>(r'.hbase b fun q=>hb (W8 r.below.size q)).trans (r.hbase b hb)
 frame:=r'.frame
 blk:=fun id b hb=>BR.rebase (b1:=w0.now w rr it itv) (fun hl g hg=>W8 r.below.size ((r'.blk id b hb).num hl hg).1) rfl (r'.blk id b hb)
 sep:=r'.sep
theorem aFj.back (hS:aFj w0 h bl hd rr) (hlt:rr < w.heap.size) (r' : Rl nt (w0.now w rr it itv) h fr' bl' a' w' h' hd'):aFj w0 h' bl' hd' rr ∧ w'.heap[rr]? = w.heap[rr]? :=
 ⟨⟨hS.own,(r'.hbase rr (aC0 hlt)).trans hS.out,fun id b hb hl q=>aC0 hlt ((r'.blk id b hb).num hl q).1⟩,r'.below.block rr (aC0 hlt)⟩
structure aEo where
 it:Nat
 nx:Nat
 ok:Nat
 en:Nat
 k1:Nat
 kk:Nat
def aEo.slots (L:aEo):List Nat:=[L.nx,L.ok,L.en,L.k1,L.kk]
structure aU8 (L:aEo) (oN oX e0 e1 e2:Oper):Prop where
 hN:oN.guard = none ∧ oN.op = .next (.tmp L.it) false ∧ oN.dst = some L.nx
 hX:oX.guard = none ∧ oX.op = .extract (.tmp L.nx) 0 ∧ oX.dst = some L.ok
 h0:e0.guard = none ∧ e0.op = .entry (.tmp L.it) ∧ e0.dst = some L.en
 h1:e1.guard = none ∧ e1.op = .extract (.tmp L.en) 0 ∧ e1.dst = some L.k1
 h2:e2.guard = none ∧ (e2.op = .assign (.tmp L.k1) ∨ e2.op = .move (.tmp L.k1)) ∧ e2.dst = some L.kk
def TS (l:List (Int × ML)) (k:Int):Bool:=l.any fun p=>decide (p.1 = k)
structure aU1 (ek0:Nat) (C:Nat->List D->Option D) (n m:Nat) (L:aEo) (sc:aH) (s s2:St):Prop where
 ex:∃ (ek:Nat) (l:List (Int × ML)) (Inv:(Int->Bool)->(Nat->V)->(Nat->Option aJ)->Prop),(M4 m s).get m = .d (.mp ek l) ∧ (ek = ek0 ∨ ek = 2) ∧
  (∀ left fr bl fr',Inv left fr bl->(∀ t,t ∉ L.it :: L.slots->fr' t = fr t)->Inv left fr' bl) ∧
  (∀ left (s:St) (k:Int),mG k->Inv left s.get s.blk->left k = true->s.get L.kk = .d (.int .i64 k)->∃ s',aS C n sc s = some (.normal,s') ∧ Inv (fun z=>left z && !decide (z = k)) s'.get s'.blk) ∧
  Inv (fun k=>TS l k) (M4 m s).get (M4 m s).blk ∧
  ∀ s' : St,Inv (fun _=>false) s'.get s'.blk->(∀ t,s2.get t = .any ∨ s2.get t = s'.get t) ∧ s2.blk = s'.blk
def VZ (l m:List (Int × ML)):List (Int × ML):=m.filter fun p=>!TS l p.1
def D3 (dead:List Nat) (fr:List (Nat × V)):List (Nat × V):=dead.map (fun t=>(t,V.any)) ++ fr
def aDV (ek0 m inn:Nat) (dead:List Nat) (s:St):Option St:=match (M4 m s).get m,(M4 m s).get inn with
 | .d (.mp ek l),.mp id=>match (M4 m s).blk id with
  | some (.mp ek' l2)=>if (ek = ek0 ∨ ek = 2) ∧ ek' = ek0 then some ⟨D3 dead (M4 m s).fr,(id,some (.mp ek' (VZ l l2))) :: (M4 m s).bl⟩ else none
  | _=>none
 | .d (.mp ek l),.d (.mp 2 [])=>if ek = ek0 ∨ ek = 2 then some ⟨D3 dead (M4 m s).fr,(M4 m s).bl⟩ else none
 | _,_=>none
def KO (l:List (Int × ML)) (n:Nat):Bool:=l.all fun p=>decide (0 <= p.1) && decide (p.1.toNat < n)
def aAq (l:List (Int × ML)) (rows:List (List D)):List (List D):=rows.mapIdx fun i row=>if TS l (i:Int) = true then [.bool true] else row
def aDO (ek0 m out:Nat) (dead:List Nat) (s:St):Option St:=match (M4 m s).get m,(M4 m s).get out with
 | .d (.mp ek l),.own id ver=>match (M4 m s).blk id with
  | some (.rows v e size rows)=>if (ek = ek0 ∨ ek = 2) ∧ ver = v ∧ size = 1 ∧ KO l rows.length = true ∧ sized 1 rows = true then some ⟨D3 dead (M4 m s).fr,(id,some (.rows v e size (aAq l rows))) :: (M4 m s).bl⟩ else none
  | _=>none
 | _,_=>none
end
def aUd:Code->Code
 | .block _ c=>c
 | .loop c=>c
 | c=>c
section
variable {P:Program} {nt:Nat}
theorem bB.cond {co:Operand} {o:bL} {c d:Code} {x y:aH} (h0:gM co = some o) (h1:bB P nt c x) (h2:bB P nt d y):bB P nt (.cond co c d) (.cond o x y):=by
 intro C hC n w0 h0' s s' ex a w h hd Q hF he r hQ
 have hc:=aY r.frame h0
 simp only [aS] at he
 split at he
 ·rename_i hb
  rw [hb] at hc
  exact wp_cond_true (jM hc) (h1 C hC n w0 h0' s s' ex a w h hd Q hF he r hQ)
 ·rename_i hb
  rw [hb] at hc
  exact wp_cond_false (jM hc) (h2 C hC n w0 h0' s s' ex a w h hd Q hF he r hQ)
 ·cases he
theorem bB.block {id:Nat} {c:Code} {x:aH} (h1:bB P nt c x):bB P nt (.block id c) (.block id x):=by
 intro C hC n w0 h0 s s' ex a w h hd Q hF he r hQ
 refine wp_block ?_
 simp only [aS] at he
 split at he
 ·rename_i id'' s1 he1
  refine h1 C hC n w0 h0 s s1 (.exit id'') a w h hd _ hF he1 r fun a' w' h' hd' r'=>?_
  simp only [Ex.go,Exit.inBlock]
  split at he
  ·rename_i hid
   cases he
   rw [if_pos hid]
   exact hQ _ _ _ _ r'
  ·rename_i hid
   cases he
   rw [if_neg hid]
   exact hQ _ _ _ _ r'
 ·rename_i hne
  refine h1 C hC n w0 h0 s s' ex a w h hd _ hF he r fun a' w' h' hd' r'=>?_
  cases ex with
  | normal=>exact hQ _ _ _ _ r'
  | exit id=>exact absurd he (hne _ _)
  | ret=>exact hQ _ _ _ _ r'
theorem bB.loop {c:Code} {x:aH} (h1:bB P nt c x):bB P nt (.loop c) (.loop x):=by
 intro C hC n w0 h0 s s' ex a w h hd Q hF he r hQ
 simp only [aS] at he
 refine R9 (fun k a w=>∃ s h hd,qT (aS C n x) k s = some (ex,s') ∧ Rl nt w0 h0 s.get s.blk a w h hd) (fun a w ⟨s,h,hd,q,_⟩=>by simp [qT] at q) ?_ n a w ⟨s,h,hd,he,r⟩
 rintro k a w ⟨s,h,hd,q,r⟩
 simp only [qT] at q
 split at q
 ·rename_i s1 he1
  exact h1 C hC n w0 h0 s s1 .normal a w h hd _ hF he1 r fun a' w' h' hd' r'=>⟨s1,h',hd',q,r'⟩
 ·rename_i hne
  refine h1 C hC n w0 h0 s s' ex a w h hd _ hF q r fun a' w' h' hd' r'=>?_
  cases ex with
  | normal=>exact absurd q (hne _)
  | exit id=>exact hQ _ _ _ _ r'
  | ret=>exact hQ _ _ _ _ r'
end
end Vm
end Go.Proofs.Ytgjcnbgfaimepaa
namespace Go.Proofs.Ytgjcnbgfaimepaa
namespace Vm
open Go.RowKit
abbrev MB:=List (Int × Bool)
def mB (m:MB):List (Int × ML):=m.map fun p=>(p.1,ML.b p.2)
def eB:Option MB->D
 | none=>.mp 2 []
 | some m=>.mp 1 (mB m)
def inM (m:MB) (k:Int):Bool:=m.any fun p=>decide (p.1 = k)
def aUb (k:Int) (z:Bool):Option MB->Bool
 | none=>z
 | some m=>AJ k z m
def aQq (l m:MB):MB:=m.filter fun p=>!inM l p.1
def aT8 (l:Option MB) (m:MB):MB:=match l with
 | none=>m
 | some l=>aQq l m
def aIX (l:MB) (n:Nat):Bool:=l.all fun p=>decide (0 <= p.1) && decide (p.1.toNat < n)
def aIb (l:MB) (xs:List Bool):List Bool:=xs.mapIdx fun i b=>if inM l (i:Int) = true then true else b
theorem aKF (k:Int) (b:Bool):∀ m:MB,CJ k (ML.b b) (mB m) = mB (CJ k b m)
 | []=>rfl
 | y :: r=>by
  show (if k < y.1 then _ else _) = mB (if k < y.1 then _ else _)
  split
  ·rfl
  ·show (y.1,ML.b y.2) :: CJ k (.b b) (mB r) = (y.1,ML.b y.2) :: mB (CJ k b r)
   rw [aKF k b r]
theorem aH5 (k:Int) (m:MB):C0 k (mB m) = mB (C0 k m):=by
 unfold C0 mB
 rw [List.filter_map]
 rfl
theorem aRX (k:Int) (b:Bool) (m:MB):IL k (ML.b b) (mB m) = mB (IL k b m):=by
 unfold IL
 rw [aH5,aKF]
theorem aLY (k:Int) (z:Bool) (m:MB):AJ k (ML.b z) (mB m) = .b (AJ k z m):=by
 unfold AJ mB
 rw [List.find?_map]
 have e:(fun p:Int × ML=>decide (p.1 = k)) ∘ (fun p:Int × Bool=>(p.1,ML.b p.2)) = fun p:Int × Bool=>decide (p.1 = k):=rfl
 rw [e]
 cases m.find? fun p=>decide (p.1 = k) <;> rfl
theorem aRF (m:MB):(mB m).length = m.length:=List.length_map ..
theorem aP6 (l:MB) (k:Int):TS (mB l) k = inM l k:=by
 unfold TS mB inM
 rw [List.any_map]
 rfl
theorem aRE (l m:MB):VZ (mB l) (mB m) = mB (aQq l m):=by
 unfold VZ aQq
 simp only [aP6]
 show (m.map _).filter _ = _
 rw [List.filter_map]
 rfl
theorem aMF (m:MB):VZ [] (mB m) = mB m:=by
 unfold VZ TS
 simp
theorem aPN (l:MB) (n:Nat):KO (mB l) n = aIX l n:=by
 unfold KO mB aIX
 rw [List.all_map]
 rfl
theorem aR3 (l:MB) (xs:List Bool):aAq (mB l) (cM cB xs) = cM cB (aIb l xs):=by
 unfold aAq aIb cM
 apply List.ext_getElem?
 intro i
 simp only [List.getElem?_mapIdx,List.getElem?_map,aP6]
 cases xs[i]? with
 | none=>rfl
 | some b =>
  simp only [Option.map_some]
  cases inM l (i:Int) <;> rfl
theorem SF (m:MB):(mB m).isEmpty = true ∨ (1:Nat) = 1:=.inr rfl
section
variable {β:Type} {T:vZ} {d:Nat} {fr:List (Nat × V)} {bl:List (Nat × Option aJ)} {k:V->Option β} {kw:V->List (Nat × Option aJ)->Option β}
theorem aE1 (ek:Nat):rI T d (.mkmap ek) fr bl k kw = bC bl d fun b=>fU b (kw (.mp d) [(d,some (.mp ek []))]):=by
 unfold rI bC
 simp only [cE]
 cases lk bl none d <;> rfl
theorem aAW:rI T d (.mkmap 1) fr bl k kw = bC bl d fun b=>fU b (kw (.mp d) [(d,some (.mp 1 (mB [])))]):=aE1 1
def aIv (ek:Nat) (m a x:V) (bl:List (Nat × Option aJ)) (k:V->Option β) (kw:V->List (Nat × Option aJ)->Option β):Option β:=FN (match m,JT a,aFT x with
  | .mp id,some n,some x=>match lk bl none id with
   | some (.mp ek' l)=>if x.kind = ek ∧ ek' = ek ∧ l.length < 1000000000000 then some (.any,[(id,some (.mp ek (IL n x l)))]) else none
   | _=>none
  | _,_,_=>none) k kw
theorem aJA (ek:Nat) (m a x:bL):rI T d (.mput ek m a x) fr bl k kw = bW fr m fun mv=>bW fr a fun av=>bW fr x fun xv=>aIv ek mv av xv bl k kw:=by
 rw [iY]
 rfl
def WZ (n:Int) (b:Bool) (id:Nat) (y:Option aJ) (kw:V->List (Nat × Option aJ)->Option β):Option β:=match y with
 | some (.mp 1 l)=>if l.length < 1000000000000 then kw .any [(id,some (.mp 1 (IL n (.b b) l)))] else none
 | _=>none
theorem aGi (id:Nat) (n:Int) (b:Bool):aIv 1 (.mp id) (.d (.int .i64 n)) (.d (.bool b)) bl k kw = if mG n then bC bl id fun y=>WZ n b id y kw else none:=by
 unfold aIv
 simp only [JT,aFT]
 by_cases h:mG n
 ·rw [if_pos h,if_pos h]
  unfold bC
  simp only
  cases lk bl none id with
  | none=>rfl
  | some y =>
   cases y with
   | mp ek l =>
    simp only [ML.kind,true_and]
    by_cases e:ek = 1
    ·subst e
     simp only [true_and,WZ]
     split <;> rfl
    ·rw [if_neg (fun q=>e q.1)]
     match ek,e with
     | 0,_=>rfl
     | 1,e=>exact absurd rfl e
     | _ + 2,_=>rfl
   | _=>rfl
 ·rw [if_neg h,if_neg h]
  rfl
theorem aEA (n:Int) (b:Bool) (id:Nat) (m:MB):WZ n b id (some (.mp 1 (mB m))) kw = if m.length < 1000000000000 then kw .any [(id,some (.mp 1 (mB (IL n b m))))] else none:=by
 unfold WZ
 simp only [aRF,aRX]
def OU (z:ML) (m a:V) (bl:List (Nat × Option aJ)) (k:V->Option β):Option β:=match S4 (lk bl none) m,JT a with
 | some (ek,l),some n=>if l.isEmpty = true ∨ z.kind = ek then k (.d (AJ n z l).d) else none
 | _,_=>none
theorem aJL (z:ML) (m a:bL):rI T d (.mget z m a) fr bl k kw = bW fr m fun mv=>bW fr a fun av=>OU z mv av bl k:=by
 unfold rI bW OU
 simp only [cE]
 cases S4 (lk bl none) (bJ (lk fr .any) m) with
 | none=>rfl
 | some p =>
  cases JT (bJ (lk fr .any) a) with
  | none=>rfl
  | some n =>
   obtain ⟨ek,l⟩:=p
   simp only
   by_cases h:l.isEmpty = true ∨ z.kind = ek
   ·rw [if_pos h,if_pos h]
   ·rw [if_neg h,if_neg h]
def aDo (z:Bool) (n:Int) (y:Option aJ) (k:V->Option β):Option β:=match y with
 | some (.mp ek l)=>if l.isEmpty = true ∨ 1 = ek then k (.d (AJ n (.b z) l).d) else none
 | some (.fmp ek l)=>if l.isEmpty = true ∨ 1 = ek then k (.d (AJ n (.b z) l).d) else none
 | _=>none
theorem aGM (z:Bool) (id:Nat) (n:Int):OU (.b z) (.mp id) (.d (.int .i64 n)) bl k = if mG n then bC bl id fun y=>aDo z n y k else none:=by
 unfold OU
 simp only [JT,S4]
 by_cases h:mG n
 ·rw [if_pos h,if_pos h]
  unfold bC
  cases lk bl none id with
  | none=>rfl
  | some y=>cases y <;> rfl
 ·rw [if_neg h,if_neg h]
  cases lk bl none id with
  | none=>rfl
  | some y=>cases y <;> rfl
theorem UD (z:Bool) (n:Int) (m:MB):aDo z n (some (.mp 1 (mB m))) k = k (.d (.bool (AJ n z m))):=by
 show (if (mB m).isEmpty = true ∨ (1:Nat) = 1 then k (.d (AJ n (.b z) (mB m)).d) else none) = _
 rw [if_pos (SF m),aLY]
 rfl
theorem aAJ (z:Bool) (n:Int) (m:MB):aDo z n (some (.fmp 1 (mB m))) k = k (.d (.bool (AJ n z m))):=UD z n m
theorem aDG (z:Bool) (n:Int) (m:MB):OU (.b z) (.d (.mp 1 (mB m))) (.d (.int .i64 n)) bl k = if mG n then k (.d (.bool (AJ n z m))) else none:=by
 unfold OU
 simp only [JT,S4]
 by_cases h:mG n
 ·rw [if_pos h,if_pos h]
  show (if (mB m).isEmpty = true ∨ (1:Nat) = 1 then k (.d (AJ n (.b z) (mB m)).d) else none) = _
  rw [if_pos (SF m),aLY]
  rfl
 ·rw [if_neg h,if_neg h]
theorem aMZ (z:Bool) (n:Int) (x:Option MB):OU (.b z) (.d (eB x)) (.d (.int .i64 n)) bl k = if mG n then k (.d (.bool (aUb n z x))) else none:=by
 cases x with
 | none =>
  unfold OU
  simp only [JT,S4,eB]
  by_cases h:mG n
  ·rw [if_pos h,if_pos h]; rfl
  ·rw [if_neg h,if_neg h]
 | some m=>exact aDG z n m
def aK3 (ek:Nat) (m a:V) (bl:List (Nat × Option aJ)) (k:V->Option β) (kw:V->List (Nat × Option aJ)->Option β):Option β:=FN (match m,JT a with
  | .d (.mp 2 []),some _=>some (.any,[])
  | .mp id,some n=>match lk bl none id with
   | some (.mp ek' l)=>if ek' = ek then some (.any,[(id,some (.mp ek (C0 n l)))]) else none
   | _=>none
  | _,_=>none) k kw
theorem aKK (ek:Nat) (m a:bL):rI T d (.mdel ek m a) fr bl k kw = bW fr m fun mv=>bW fr a fun av=>aK3 ek mv av bl k kw:=by
 rw [iY]
 rfl
def VJ (n:Int) (id:Nat) (y:Option aJ) (kw:V->List (Nat × Option aJ)->Option β):Option β:=match y with
 | some (.mp ek l)=>if ek = 1 then kw .any [(id,some (.mp 1 (C0 n l)))] else none
 | _=>none
theorem aGE (id:Nat) (n:Int):aK3 1 (.mp id) (.d (.int .i64 n)) bl k kw = if mG n then bC bl id fun y=>VJ n id y kw else none:=by
 unfold aK3
 simp only [JT]
 by_cases h:mG n
 ·rw [if_pos h,if_pos h]
  unfold bC
  simp only
  cases lk bl none id with
  | none=>rfl
  | some y =>
   cases y with
   | mp ek l =>
    simp only [VJ]
    split <;> rfl
   | _=>rfl
 ·rw [if_neg h,if_neg h]
  rfl
theorem aGd (n:Int) (id:Nat) (m:MB):VJ n id (some (.mp 1 (mB m))) kw = kw .any [(id,some (.mp 1 (mB (C0 n m))))]:=by
 unfold VJ
 simp only [if_true,aH5]
theorem aFP (i:Nat) (k:List V->Option β):u3 (.mp i) k = k [.mp i]:=rfl
def d1M (id:Nat) (b:Option aJ) (k:D->List (Nat × Option aJ)->Option β):Option β:=match b with
 | some (.mp ek m)=>k (.mp ek m) [(id,some (.fmp ek m))]
 | some (.fmp ek m)=>k (.mp ek m) []
 | _=>none
theorem aR4 (id ek:Nat) (m:List (Int × ML)) (k:D->List (Nat × Option aJ)->Option β):d1M id (some (.mp ek m)) k = k (.mp ek m) [(id,some (.fmp ek m))]:=rfl
theorem aPX (id ek:Nat) (m:List (Int × ML)) (k:D->List (Nat × Option aJ)->Option β):d1M id (some (.fmp ek m)) k = k (.mp ek m) []:=rfl
theorem aRb (id:Nat) (k:D->List (Nat × Option aJ)->Option β):RR (.mp id) bl k = bC bl id fun b=>d1M id b k:=by
 unfold RR bC d1M
 simp only [iN,AX,rD,IY]
 generalize lk bl none id = b
 cases b with
 | none=>rfl
 | some b=>cases b <;> rfl
theorem aMH (id:Nat) (k:D->List (Nat × Option aJ)->Option β):B0 (.mp id) bl k = RR (.mp id) bl k:=rfl
theorem aK0 (id:Nat) (cs:List V) (kk:List D->List (Nat × Option aJ)->Option β):wG bl (.mp id :: cs) kk = RR (.mp id) bl fun x g=>wG bl cs fun ds f=>kk (x :: ds) (g ++ f):=by
 rw [MV]
 unfold RR
 simp only [aM,List.flatMap_cons,MV]
 cases iN (lk bl none) (.mp id) with
 | none=>rfl
 | some x =>
  cases aM (iN (lk bl none)) cs <;> rfl
theorem aL8 (id:Nat) (k:List D->List (Nat × Option aJ)->Option β):L3 (.mp id) bl k = RR (.mp id) bl fun x f=>k [x] f:=by
 unfold L3 RR
 show (match aM (iN (lk bl none)) [.mp id] with | some row=>k row (AX (lk bl none) (.mp id)) | none=>none) = _
 simp only [aM]
 cases iN (lk bl none) (.mp id) <;> rfl
def oY:List V->Option β->Option β
 | [],y=>y
 | v :: l,y=>if v.noTup = true then oY l y else none
theorem TP (y:Option β):∀ l:List V,oY l y = if l.all V.noTup = true then y else none
 | []=>rfl
 | v :: l=>by
  by_cases h:v.noTup = true
  ·simp [oY,h,TP y l]
  ·simp [oY,h]
theorem aOo (dst:Option Nat) (slots:List Nat) (cs:List V) (v u:V) (l:List V) (k:List (Nat × V)->Option β):TJ dst slots cs (v :: u :: l) k = oY (v :: u :: l) (k (N9 dst (.tup (v :: u :: l)) ++ slots.zip cs)):=by
 rw [SN,TP]
theorem aBP (y:Option β):oY [] y = y:=rfl
theorem aIw (x:D) (l:List V) (y:Option β):oY (.d x :: l) y = oY l y:=rfl
theorem aGm (i:Nat) (l:List V) (y:Option β):oY (.mp i :: l) y = oY l y:=rfl
theorem aBM (i v:Nat) (l:List V) (y:Option β):oY (.own i v :: l) y = oY l y:=rfl
theorem aBS (i v:Nat) (l:List V) (y:Option β):oY (.ptr i v :: l) y = oY l y:=rfl
theorem aIf (l:List V) (y:Option β):oY (.nil :: l) y = oY l y:=rfl
theorem aBQ (cs l:List V) (y:Option β):oY (.agg cs :: l) y = oY l y:=rfl
theorem YA (ds:List D) (l:List V) (y:Option β):oY (iX ds :: l) y = oY l y:=rfl
def aOl (id:Nat) (b:Option aJ) (k:V->List (Nat × Option aJ)->Option β) (y:Option β):Option β:=match b with
 | some (.mp ek m)=>k (.d (.mp ek m)) [(id,some (.fmp ek m))]
 | some (.fmp ek m)=>k (.d (.mp ek m)) []
 | _=>y
theorem aOH (id:Nat) (k:V->List (Nat × Option aJ)->Option β) (y:Option β):JN (.mp id) bl k y = bC bl id fun b=>aOl id b k y:=by
 unfold JN bC aOl
 simp only [rD,IY]
 generalize lk bl none id = b
 cases b with
 | none=>rfl
 | some b=>cases b <;> rfl
theorem aNF (id ek:Nat) (m:List (Int × ML)) (k:V->List (Nat × Option aJ)->Option β) (y:Option β):aOl id (some (.mp ek m)) k y = k (.d (.mp ek m)) [(id,some (.fmp ek m))]:=rfl
theorem aIG (id ek:Nat) (m:List (Int × ML)) (k:V->List (Nat × Option aJ)->Option β) (y:Option β):aOl id (some (.fmp ek m)) k y = k (.d (.mp ek m)) []:=rfl
section
variable (keep:List Nat)
def RO (id:Nat) (b:Option aJ) (k:V->Option β):Option β:=match b with
 | some (.mp _ _)=>fB keep id (k (.mp id)) (k .any)
 | some (.fmp ek m)=>k (.d (.mp ek m))
 | _=>k .any
theorem aKi (id:Nat):pE keep bl (.mp id) k = bC bl id fun b=>RO keep id b k:=by
 unfold pE bC RO fB
 simp only [GE,OH,sO]
 generalize lk bl none id = b
 cases b with
 | none=>rfl
 | some b=>cases b <;> first | rfl | (simp only; cases h:keep.contains id <;> simp)
theorem aFv (id ek:Nat) (m:List (Int × ML)):RO keep id (some (.mp ek m)) k = fB keep id (k (.mp id)) (k .any):=rfl
theorem aCk (id ek:Nat) (m:List (Int × ML)):RO keep id (some (.fmp ek m)) k = k (.d (.mp ek m)):=rfl
theorem Y7 (id:Nat):RO keep id none k = k .any:=rfl
theorem aHE (id:Nat) (cs:List V) (k:List V->Option β):rE keep bl (.mp id :: cs) k = pE keep bl (.mp id) fun v=>rE keep bl cs fun l=>k (v :: l):=by simp only [sI]; rfl
theorem aE9 (ek:Nat) (m:List (Int × ML)) (k:Option aJ->Option β):xX keep bl (some (.mp ek m)) k = k (some (.mp ek m)):=rfl
theorem aCB (ek:Nat) (m:List (Int × ML)) (k:Option aJ->Option β):xX keep bl (some (.fmp ek m)) k = k none:=rfl
end
theorem aMM (i:Nat) (k:List Nat->Option β):IF (.mp i) k = k [i]:=rfl
theorem aIR (i:Nat) (k:List Nat->Option β):zO bl (.mp i) k = k [i]:=rfl
theorem aGK (i:Nat) (cs:List V) (k:List Nat->Option β):rX bl (.mp i :: cs) k = rX bl cs fun l=>k (i :: l):=by simp only [vQ]; rfl
theorem aGY (i:Nat) (cs:List V) (k:List Nat->Option β):rU (.mp i :: cs) k = rU cs fun l=>k (i :: l):=by simp only [vF]; rfl
theorem TN {m:Nat} {g:V->List (Nat × V)->List (Nat × Option aJ)->Option St} {f:St->Option St} (hf:∀ s:St,f s = match (M4 m s).get m with
  | .d x=>g (.d x) (M4 m s).fr (M4 m s).bl
  | _=>none) (k:Ex->St->Option β):bU T (.hand f) ⟨fr,bl⟩ k = iK fr m fun v=>JN v bl (fun v' wr=>match g v' ((m,v') :: fr) (wr ++ bl) with
  | some s=>k .normal s
  | none=>none) none:=by
 unfold bU
 have hfr:M4 m ⟨fr,bl⟩ = (match rD (lk bl none) (lk fr .any m) with
  | some d=>⟨(m,.d d) :: fr,IY (lk bl none) (lk fr .any m) ++ bl⟩
  | none=>⟨fr,bl⟩ : St):=rfl
 rw [FJ,hf,hfr]
 unfold iK JN
 have e:(⟨fr,bl⟩ : St).get m = lk fr .any m:=rfl
 generalize lk fr .any m = v at e
 cases h:rD (lk bl none) v with
 | none =>
  simp only
  rw [e]
  cases v with
  | d x=>cases h
  | _=>simp only [h]; rfl
 | some x =>
  simp only
  have e:(⟨(m,V.d x) :: fr,IY (lk bl none) v ++ bl⟩ : St).get m = .d x:=by simp [St.get,lk]
  rw [e]
  simp only [h]
  cases g (.d x) ((m,.d x) :: fr) (IY (lk bl none) v ++ bl) <;> rfl
def GG (ek0:Nat) (v u:V) (bl:List (Nat × Option aJ)) (kk:List (Nat × Option aJ)->Option β):Option β:=match v,u with
 | .d (.mp ek l),.mp id=>match lk bl none id with
  | some (.mp ek' l2)=>if (ek = ek0 ∨ ek = 2) ∧ ek' = ek0 then kk [(id,some (.mp ek' (VZ l l2)))] else none
  | _=>none
 | .d (.mp ek l),.d (.mp 2 [])=>if ek = ek0 ∨ ek = 2 then kk [] else none
 | _,_=>none
theorem JD (dead:List Nat) (fr:List (Nat × V)):D3 dead fr = AZ dead fr:=by
 induction dead with
 | nil=>rfl
 | cons t l ih =>
  show (t,V.any) :: D3 l fr = (t,V.any) :: AZ l fr
  rw [ih]
theorem XH (ek0 m inn:Nat) (dead:List Nat) (k:Ex->St->Option β):bU T (.hand (aDV ek0 m inn dead)) ⟨fr,bl⟩ k = iK fr m fun v=>JN v bl (fun v' wr=>iK ((m,v') :: fr) inn fun u=>GG ek0 v' u (wr ++ bl) fun w2=>k .normal ⟨AZ dead ((m,v') :: fr),w2 ++ (wr ++ bl)⟩) none:=by
 rw [TN (g:=fun v fr bl=>GG ek0 v (lk fr .any inn) bl fun w2=>some ⟨AZ dead fr,w2 ++ bl⟩) (fun s=>?_) k]
 ·unfold iK
  refine congrArg (fun q=>JN (lk fr .any m) bl q none) ?_
  funext v' wr
  generalize lk ((m,v') :: fr) .any inn = u
  unfold GG
  cases v' with
  | d x =>
   cases x with
   | mp ek l =>
    cases u with
    | mp id =>
     simp only
     cases lk (wr ++ bl) none id with
     | none=>rfl
     | some y =>
      cases y with
      | mp ek' l2=>by_cases hc:(ek = ek0 ∨ ek = 2) ∧ ek' = ek0 <;> first | (simp only [if_pos hc]; done) | (simp only [if_neg hc]; done)
      | _=>rfl
    | d y =>
     cases y with
     | mp e2 l2 =>
      match e2,l2 with
      | 2,[]=>by_cases hc:ek = ek0 ∨ ek = 2 <;> first | (simp only [if_pos hc]; done) | (simp only [if_neg hc]; done)
      | 2,_ :: _=>rfl
      | 0,_=>rfl
      | 1,_=>rfl
      | _ + 3,_=>rfl
     | _=>rfl
    | _=>rfl
   | _=>rfl
  | _=>rfl
 ·unfold aDV GG
  generalize M4 m s = s1
  have e1:s1.get inn = lk s1.fr .any inn:=rfl
  rw [e1]
  cases s1.get m with
  | d x =>
   cases x with
   | mp ek l =>
    cases lk s1.fr .any inn with
    | mp id =>
     simp only
     have e2:s1.blk id = lk s1.bl none id:=rfl
     rw [e2]
     cases lk s1.bl none id with
     | none=>rfl
     | some y =>
      cases y with
      | mp ek' l2=>simp only [JD]; rfl
      | _=>rfl
    | d y =>
     cases y with
     | mp e2 l2 =>
      match e2,l2 with
      | 2,[]=>simp only [JD]; rfl
      | 2,_ :: _=>rfl
      | 0,_=>rfl
      | 1,_=>rfl
      | _ + 3,_=>rfl
     | _=>rfl
    | _=>rfl
   | _=>cases lk s1.fr .any inn <;> rfl
  | _=>cases lk s1.fr .any inn <;> rfl
def aEf (l:List (Int × ML)) (id:Nat) (y:Option aJ) (kk:List (Nat × Option aJ)->Option β):Option β:=match y with
 | some (.mp ek' l2)=>if ek' = 1 then kk [(id,some (.mp 1 (VZ l l2)))] else none
 | _=>none
theorem YR {ek:Nat} (h:ek = 1 ∨ ek = 2) (l:List (Int × ML)) (id:Nat) (kk:List (Nat × Option aJ)->Option β):GG 1 (.d (.mp ek l)) (.mp id) bl kk = bC bl id fun y=>aEf l id y kk:=by
 unfold GG bC aEf
 simp only
 cases lk bl none id with
 | none=>rfl
 | some y =>
  cases y with
  | mp ek' l2 =>
   simp only
   by_cases e:ek' = 1
   ·subst e
    rw [if_pos ⟨h,rfl⟩,if_pos rfl]
   ·rw [if_neg (fun q=>e q.2),if_neg e]
  | _=>rfl
def aD6 (x:Option MB) (id:Nat) (y:Option aJ) (kk:List (Nat × Option aJ)->Option β):Option β:=match x with
 | none=>aEf [] id y kk
 | some l=>aEf (mB l) id y kk
theorem aD7 (l:MB) (id:Nat) (kk:List (Nat × Option aJ)->Option β):GG 1 (.d (.mp 1 (mB l))) (.mp id) bl kk = bC bl id fun y=>aD6 (some l) id y kk:=YR (.inl rfl) (mB l) id kk
theorem aD8 (id:Nat) (kk:List (Nat × Option aJ)->Option β):GG 1 (.d (.mp 2 [])) (.mp id) bl kk = bC bl id fun y=>aD6 none id y kk:=YR (.inr rfl) [] id kk
theorem aPI (x:Option MB) (id:Nat) (kk:List (Nat × Option aJ)->Option β):GG 1 (.d (eB x)) (.mp id) bl kk = bC bl id fun y=>aD6 x id y kk:=by
 cases x with
 | none=>exact aD8 id kk
 | some l=>exact aD7 l id kk
theorem aJz (l:MB) (kk:List (Nat × Option aJ)->Option β):GG 1 (.d (.mp 1 (mB l))) (.d (.mp 2 [])) bl kk = kk []:=rfl
theorem aJH (kk:List (Nat × Option aJ)->Option β):GG 1 (.d (.mp 2 [])) (.d (.mp 2 [])) bl kk = kk []:=rfl
theorem aK4 (x:Option MB) (kk:List (Nat × Option aJ)->Option β):GG 1 (.d (eB x)) (.d (.mp 2 [])) bl kk = kk []:=by cases x <;> rfl
theorem aKH (x:Option MB) (id:Nat) (m:MB) (kk:List (Nat × Option aJ)->Option β):aD6 x id (some (.mp 1 (mB m))) kk = kk [(id,some (.mp 1 (mB (aT8 x m))))]:=by
 cases x with
 | none =>
  show (if (1:Nat) = 1 then kk [(id,some (.mp 1 (VZ [] (mB m))))] else none) = _
  rw [if_pos rfl,aMF]
  rfl
 | some l =>
  show (if (1:Nat) = 1 then kk [(id,some (.mp 1 (VZ (mB l) (mB m))))] else none) = _
  rw [if_pos rfl,aRE]
  rfl
def TY (ek0:Nat) (v u:V) (bl:List (Nat × Option aJ)) (kk:List (Nat × Option aJ)->Option β):Option β:=match v,u with
 | .d (.mp ek l),.own id ver=>match lk bl none id with
  | some (.rows v e size rows)=>if (ek = ek0 ∨ ek = 2) ∧ ver = v ∧ size = 1 ∧ KO l rows.length = true ∧ sized 1 rows = true then kk [(id,some (.rows v e size (aAq l rows)))] else none
  | _=>none
 | _,_=>none
theorem Z9 (ek0 m out:Nat) (dead:List Nat) (k:Ex->St->Option β):bU T (.hand (aDO ek0 m out dead)) ⟨fr,bl⟩ k = iK fr m fun v=>JN v bl (fun v' wr=>iK ((m,v') :: fr) out fun u=>TY ek0 v' u (wr ++ bl) fun w2=>k .normal ⟨AZ dead ((m,v') :: fr),w2 ++ (wr ++ bl)⟩) none:=by
 rw [TN (g:=fun v fr bl=>TY ek0 v (lk fr .any out) bl fun w2=>some ⟨AZ dead fr,w2 ++ bl⟩) (fun s=>?_) k]
 ·unfold iK
  refine congrArg (fun q=>JN (lk fr .any m) bl q none) ?_
  funext v' wr
  generalize lk ((m,v') :: fr) .any out = u
  unfold TY
  cases v' with
  | d x =>
   cases x with
   | mp ek l =>
    cases u with
    | own id ver =>
     simp only
     cases lk (wr ++ bl) none id with
     | none=>rfl
     | some y =>
      cases y with
      | rows v e size rows=>by_cases hc:(ek = ek0 ∨ ek = 2) ∧ ver = v ∧ size = 1 ∧ KO l rows.length = true ∧ sized 1 rows = true <;> first | (simp only [if_pos hc]; done) | (simp only [if_neg hc]; done)
      | _=>rfl
    | _=>rfl
   | _=>rfl
  | _=>rfl
 ·unfold aDO TY
  generalize M4 m s = s1
  have e1:s1.get out = lk s1.fr .any out:=rfl
  rw [e1]
  cases s1.get m with
  | d x =>
   cases x with
   | mp ek l =>
    cases lk s1.fr .any out with
    | own id ver =>
     simp only
     have e2:s1.blk id = lk s1.bl none id:=rfl
     rw [e2]
     cases lk s1.bl none id with
     | none=>rfl
     | some y =>
      cases y with
      | rows v e size rows=>simp only [JD]; rfl
      | _=>rfl
    | _=>rfl
   | _=>cases lk s1.fr .any out <;> rfl
  | _=>cases lk s1.fr .any out <;> rfl
def V0 (l:List (Int × ML)) (id ver:Nat) (y:Option aJ) (kk:List (Nat × Option aJ)->Option β):Option β:=match y with
 | some (.rows v e size rows)=>if ver = v ∧ size = 1 ∧ KO l rows.length = true ∧ sized 1 rows = true then kk [(id,some (.rows v e size (aAq l rows)))] else none
 | _=>none
theorem aNN (l:MB) (id ver:Nat) (kk:List (Nat × Option aJ)->Option β):TY 1 (.d (.mp 1 (mB l))) (.own id ver) bl kk = bC bl id fun y=>V0 (mB l) id ver y kk:=by
 unfold TY bC V0
 simp only
 cases lk bl none id with
 | none=>rfl
 | some y =>
  cases y with
  | rows v e size rows =>
   simp only
   by_cases h:ver = v ∧ size = 1 ∧ KO (mB l) rows.length = true ∧ sized 1 rows = true
   ·rw [if_pos h,if_pos ⟨.inl trivial,h⟩]
   ·rw [if_neg h,if_neg fun q=>h q.2]
  | _=>rfl
theorem YW (l:MB) (id v e:Nat) (xs:List Bool) (kk:List (Nat × Option aJ)->Option β):V0 (mB l) id v (some (.rows v e 1 (cM cB xs))) kk = if aIX l xs.length = true then kk [(id,some (.rows v e 1 (cM cB (aIb l xs))))] else none:=by
 unfold V0
 simp only [vG,aPN,aR3,ZM,true_and,and_true]
end
end Vm
end Go.Proofs.Ytgjcnbgfaimepaa
namespace Go.Proofs.Ytgjcnbgfaimepaa
namespace Vm
open Go.RowKit
abbrev MI:=List (Int × Int)
def mI (m:MI):List (Int × ML):=m.map fun p=>(p.1,ML.i p.2)
def eI:Option MI->D
 | none=>.mp 2 []
 | some m=>.mp 0 (mI m)
section
variable {β:Type} {T:vZ} {d:Nat} {fr:List (Nat × V)} {bl:List (Nat × Option aJ)} {k:V->Option β} {kw:V->List (Nat × Option aJ)->Option β}
end
end Vm
end Go.Proofs.Ytgjcnbgfaimepaa
namespace Go.Proofs.Ytgjcnbgfaimepaa
namespace Vm
open Go.RowKit
section
variable {β α:Type} {T:vZ} {d:Nat} {fr:List (Nat × V)} {bl:List (Nat × Option aJ)} {k:V->Option β} {kw:V->List (Nat × Option aJ)->Option β}
theorem aLV (i:Nat) (l:List V):mZ i ([] ++ l) = mZ i l:=rfl
theorem aKC (i:Nat) (v:V) (l m:List V):mZ i ((v :: l) ++ m) = mZ i (v :: (l ++ m)):=rfl
end
end Vm
end Go.Proofs.Ytgjcnbgfaimepaa
namespace Go.Proofs.Ytgjcnbgfaimepaa
namespace Vm
open Go.RowKit
abbrev LQ (o:Oper) (op:Op) (d:Option Nat):Prop:=o.guard = none ∧ o.op = op ∧ o.dst = d
section
variable {P:Program} {w:World}
end
section
variable {P:Program} {nt:Nat} {w0:b7} {w wV:World} {h0 h:Hp} {fr:Nat->V} {bl:Nat->Option aJ} {a:Act} {hd:Nat->Value}
end
structure ZI where
 tB:Nat
 tI:Nat
 tK:Nat
 q0:Nat
 c1:Nat
 c2:Nat
 c3:Nat
 c4:Nat
 c5:Nat
 c6:Nat
 ln:Nat
 ls:Nat
 e1:Nat
 e2:Nat
 e3:Nat
 e4:Nat
 e5:Nat
 e6:Nat
 k2:Nat
 ix:Nat
 fa:Nat
 u1:Nat
 u2:Nat
def ZI.all (L:ZI):List Nat:=[L.tK,L.q0,L.c1,L.c2,L.c3,L.c4,L.c5,L.c6,L.ln,L.ls,L.e1,L.e2,L.e3,L.e4,L.e5,L.e6,L.k2,L.ix,L.fa,L.u1,L.u2]
structure ZI.Ok (L:ZI):Prop where
 a1:L.q0 ∉ [L.c1,L.c2,L.c3,L.c4,L.c5,L.c6]
 a2:L.q0 ≠ L.ln
 k1:L.tK ≠ L.ls
 k2:L.tK ≠ L.ln
 k3:L.tK ∉ [L.c1,L.c2,L.c3,L.c4,L.c5,L.c6]
 k4:L.tK ≠ L.q0
 k5:L.tK ∉ [L.e1,L.e2,L.e3,L.e4,L.e5,L.e6]
 k6:L.tK ≠ L.fa
 k7:L.tK ≠ L.ix
 k8:L.tK ≠ L.k2
 e6:L.e6 ≠ L.k2
structure aQn (P:Program) where
 tR:TypeId
 fR:Nat
 tS:TypeId
 tO:TypeId
 fO:Nat
 tC:TypeId
 tE:TypeId
 fE:Nat
 tW:TypeId
 fsR:Array Field
 fdR:Field
 fsO:Array Field
 fdO:Field
 fsE:Array Field
 fdE:Field
 iS:TypeInfo
 iO:TypeInfo
 iC:TypeInfo
 iE:TypeInfo
 iW:TypeInfo
 h1:P.underlying tR = some (.struct fsR) ∧ fsR[fR]? = some fdR ∧ P.info? fdR.type = some iS ∧ (iS.size == 0) = false
 h2:lL P tS = some false ∧ P.info? tS = some iS ∧ P.underlying tS = some (.slice tO) ∧ P.info? tO = some iO
 h3:P.underlying tO = some (.struct fsO) ∧ fsO[fO]? = some fdO ∧ P.info? fdO.type = some iC ∧ (iC.size == 0) = false
 h4:lL P tC = some false ∧ P.info? tC = some iC ∧ P.underlying tC = some (.slice tE) ∧ P.info? tE = some iE
 h5:P.underlying tE = some (.struct fsE) ∧ fsE[fE]? = some fdE ∧ P.info? fdE.type = some iW ∧ (iW.size == 0) = false
 h6:P.info? tW = some iW ∧ iW.size = 1
structure aP0 {P:Program} (T:aQn P) (tB tI c1 c2 c3 c4 c5 c6:Nat) (o1 o2 o3 o4 o5 o6:Oper):Prop where
 h1:LQ o1 (.fieldAddr T.tR (.tmp tB) T.fR) (some c1)
 h2:LQ o2 (.load T.tS (.tmp c1)) (some c2)
 h3:LQ o3 (.move (.tmp tI)) (some c3)
 h4:LQ o4 (.indexAddr T.tS (.tmp c2) (.tmp c3)) (some c4)
 h5:LQ o5 (.fieldAddr T.tO (.tmp c4) T.fO) (some c5)
 h6:LQ o6 (.load T.tC (.tmp c5)) (some c6)
 n32:c3 ≠ c2
section
variable {P:Program} {nt:Nat} {w0:b7} {w wV:World} {h0 h:Hp} {fr:Nat->V} {bl:Nat->Option aJ} {a:Act} {hd:Nat->Value}
end
structure aU0 {P:Program} (T:aQn P) (L:ZI) (o0 o1 o2 o3 o4 o5 o6 o7 o8 p1 p2 p3 p4 p5 p6 p7 p8 p9 p10 x1 x2 x3:Oper) (tI:TypeId) (yI:TypeId) (cW c1:Operand):Prop where
 h0:LQ o0 (.move (.tmp L.tK)) (some L.q0)
 h1:aP0 T L.tB L.tI L.c1 L.c2 L.c3 L.c4 L.c5 L.c6 o1 o2 o3 o4 o5 o6
 h7:o7.guard = none ∧ o7.dst = some L.ln ∧ ∀ ρ:Operand->Value,execOp ρ o7 = (do pure (.value (← Builtin.len_ #[T.tC] o7.type #[ρ (.tmp L.c6)])))
 h8:LQ o8 (.binOp .lss tI (.tmp L.q0) (.tmp L.ln) yI) (some L.ls)
 g1:aP0 T L.tB L.tI L.e1 L.e2 L.e3 L.e4 L.e5 L.e6 p1 p2 p3 p4 p5 p6
 g7:LQ p7 (.move (.tmp L.tK)) (some L.k2)
 g8:LQ p8 (.indexAddr T.tC (.tmp L.e6) (.tmp L.k2)) (some L.ix)
 g9:LQ p9 (.fieldAddr T.tE (.tmp L.ix) T.fE) (some L.fa)
 g10:LQ p10 (.store T.tW (.tmp L.fa) cW) none
 f1:LQ x1 (.move (.tmp L.tK)) (some L.u1)
 f2:LQ x2 (.binOp .add tI (.tmp L.u1) c1 yI) (some L.u2)
 f3:LQ x3 (.assign (.tmp L.u2)) (some L.tK)
 cW:∀ a:Act,a.eval cW = .bool false
 c1:∀ a:Act,a.eval c1 = .int .i64 1
section
variable {P:Program} {nt:Nat} {w0:b7} {h0 h:Hp} {bl0:Nat->Option aJ} {hd:Nat->Value}
end
section
variable {P:Program}
end
end Vm
end Go.Proofs.Ytgjcnbgfaimepaa
namespace Go.Proofs.Ytgjcnbgfaimepaa
namespace Vm
open Go.RowKit
section
variable {β:Type} {T:vZ} {fr:List (Nat × V)} {bl:List (Nat × Option aJ)}
end
end Vm
end Go.Proofs.Ytgjcnbgfaimepaa
namespace Go.Proofs.Ytgjcnbgfaimepaa
namespace Vm
open Go.RowKit
section
variable {β:Type} {T:vZ} {d:Nat} {fr:List (Nat × V)} {bl:List (Nat × Option aJ)} {k:V->Option β} {kw:V->List (Nat × Option aJ)->Option β}
end
end Vm
end Go.Proofs.Ytgjcnbgfaimepaa
