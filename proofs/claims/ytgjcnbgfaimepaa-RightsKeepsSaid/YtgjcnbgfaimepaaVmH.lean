/- A map that is laid and ranged over, each entry written into a row of the call's own: in whatever order. The small machine, read from the front: a range over a map that is laid. A range over a map keyed by numbers, each round of which is code of the small machine: in whatever order. The small machine, read from the front: maps of bools keyed by numbers. The small machine, read from the front: maps of numbers keyed by numbers. The small machine, read from the front: pointers that may be nil, arrays of them. A slice is stored in a field of an element of a slice of one's own, and then one field of each of its elements is set through that field: the small machine sets the fields first, and stores then. Rules for the piece that sets a field of all elements of a slice that stands in a field of an element. 'slices.Sorted(maps.Keys(m))' as one piece: what it does to the state. -/
import Derived.Test.YtgjcnbgfaimepaaVmD
import Derived.Maps.RangeWalk
import Derived.WalkArith
import Derived.Test.YtgjcnbgfaimepaaVmF
import Derived.Laws.IdiomRangeMap
set_option linter.unusedVariables false
set_option linter.unusedSimpArgs false
namespace Go.Proofs.Ytgjcnbgfaimepaa
namespace Vm
open Go.RowKit Go.Maps
def aIb (dead:List Nat) (s:St):List (Nat × V):=dead.map (fun t=>(t,V.any)) ++ s.fr
def XE (cell:V->Option (List D)) (s:St):List (Nat × Nat)->List (List D)->Option (List (List D))
 | [],rows=>some rows
 | (k,t) :: l,rows=>match cell (s.get t) with
  | some row=>if k < rows.length then XE cell s l (rows.set k row) else none
  | none=>none
def aPk (out:Nat) (cell:V->Option (List D)) (ks:List (Nat × Nat)) (dead:List Nat) (s:St):Option St:=match s.get out with
 | .own id ver=>match s.blk id with
  | some (.rows v e size rows)=>if ver = v ∧ size = 2 then match XE cell s ks rows with
    | some rows'=>some ⟨aIb dead s,(id,some (.rows v e size rows')) :: s.bl⟩
    | none=>none
   else none
  | _=>none
 | _=>none
section
variable {P:Program} {nt:Nat} {w0:bU} {w w' : World} {h0 h:Hp} {fr:Nat->V} {bl:Nat->Option aI} {a:Act} {hd:Nat->Value}
structure aGR (w0:bU) (h:Hp) (bl:Nat->Option aI) (hd:Nat->Value) (g:Nat):Prop where
 own:w0.own g
 out:h g = none
 off:∀ id b,bl id = some b->b.live = true->eU (hd id) ≠ some g
theorem aGR.new (r:Rl nt w0 h0 fr bl a w h hd) {g:Nat} (hg:w.heap.size <= g):aGR w0 h bl hd g where
 own:=.inl (Nat.le_trans r.below.size hg)
 out:=IP r.hle hg
 off:=fun id b hb hl q=>by have:=((r.blk id b hb).num hl q).2.1; omega
theorem N2 (r:Rl nt w0 h0 fr bl a w h hd) {d:Nat} (hd' : d < nt) (cv:Value) (t:Nat):(a.put (some d) cv).tmps.getD t undef = if d = t then cv else a.tmps.getD t undef:=by
 rw [GY a (some d) cv t nt r.tmps fun x e=>by cases e; exact hd']
 simp only [Option.some.injEq]
theorem J0 {ops:Array Oper} {Q:Exit->Act->World->Prop} {K:Act->World->Prop} {i:Nat} {o:Oper} (ho:ops[i]? = some o) (hg:o.guard = none) (h:o.wp P a w K Q):wpOp P ops Q i K a w:=by
 unfold wpOp
 rw [ho]
 simp only
 rw [if_pos (by simp [Region.wanted,hg])]
 exact .inl h
inductive aT6 where
 | vm (so:aM)
 | ins (k t:Nat)
structure aPu where
 it:Nat
 nx:Nat
 ok:Nat
 en:Nat
 k1:Nat
 v1:Nat
 kk:Nat
 vv:Nat
 d1:Nat
 d2:Nat
 d3:Nat
 dc:Nat
 da:Nat
 out:Nat
def aPu.slots (L:aPu):List Nat:=[L.nx,L.ok,L.en,L.k1,L.v1,L.kk,L.vv,L.d1,L.d2,L.d3,L.dc,L.da]
theorem aNr (r:Rl nt w0 h0 fr bl a w h hd) (hF:∀ t,w0.F t = none) {d:Nat} (hd' : d < nt) (cv:Value) (v:V) (hv:R3 h hd bl cv v) :
  ∃ a',a.put (some d) cv = a' ∧ Rl nt w0 h0 (dU fr (some d) v) bl a' w h hd ∧ a'.tmps.getD d undef = cv ∧ ∀ t,t ≠ d->a'.tmps.getD t undef = a.tmps.getD t undef :=
 ⟨_,rfl,r.put0 (some d) cv v (fun x e=>by cases e; exact ⟨hd',hF d⟩) hv,by rw [N2 r hd',if_pos rfl],fun t ht=>by rw [N2 r hd',if_neg (Ne.symm ht)]⟩
def aNO:Code->Code
 | .seq a _=>a
 | c=>c
def D6:Code->Code
 | .seq _ b=>b
 | c=>c
def LQ:Code->Array Oper
 | .region _ ops _=>ops
 | _=>#[]
theorem aBV {P:Program} {e:TypeId} {z:Value} {s b:Nat} (h:(P.info? e).map (fun i=>(i.zero,i.size,i.bytes)) = some (some z,s,b)):∃ i,P.info? e = some i ∧ i.zero = some z ∧ i.size = s ∧ i.bytes = b:=by
 cases hi:P.info? e with
 | none=>rw [hi] at h; cases h
 | some i=>rw [hi] at h; simp only [Option.map_some,Option.some.injEq,Prod.mk.injEq] at h; exact ⟨i,rfl,h.1,h.2.1,h.2.2⟩
def aMt {α:Type} (Q:α->Prop):List α->Prop
 | []=>True
 | x :: l=>Q x ∧ aMt Q l
theorem aMt.all {α:Type} {Q:α->Prop}:∀ {l:List α},aMt Q l->∀ x ∈ l,Q x
 | [],_,x,h=>by simp at h
 | y :: l,q,x,h=>by
  rcases List.mem_cons.1 h with rfl | h
  ·exact q.1
  ·exact aMt.all q.2 x h
end
end Vm
end Go.Proofs.Ytgjcnbgfaimepaa
namespace Go.Proofs.Ytgjcnbgfaimepaa
namespace Vm
open Go.RowKit
section
variable {β:Type} {T:vS} {fr:List (Nat × V)} {bl:List (Nat × Option aI)}
def aBu (ver:Nat) (b:Option aI) (g:Nat->List (List D)->Option β):Option β:=match b with
 | some (.rows v e size rows)=>if ver = v ∧ size = 2 then g e rows else none
 | _=>none
theorem ZM (v e:Nat) (rows:List (List D)) (g:Nat->List (List D)->Option β):aBu v (some (.rows v e 2 rows)) g = g e rows:=if_pos ⟨rfl,rfl⟩
def ZO (cell:V->Option (List D)) (fr:List (Nat × V)):List (Nat × Nat)->List (List D)->(List (List D)->Option β)->Option β
 | [],rows,g=>g rows
 | (k,t) :: l,rows,g=>hU fr t fun v=>(cell v).bind fun row=>if k < rows.length then ZO cell fr l (rows.set k row) g else none
theorem aFg (cell:V->Option (List D)) (rows:List (List D)) (g:List (List D)->Option β):ZO cell fr [] rows g = g rows:=rfl
theorem WE (cell:V->Option (List D)) (b:List (Nat × Option aI)) (g:List (List D)->Option β):∀ (l:List (Nat × Nat)) (rows:List (List D)),ZO cell fr l rows g = (XE cell ⟨fr,b⟩ l rows).bind g
 | [],rows=>rfl
 | (k,t) :: l,rows=>by
  simp only [ZO,XE,hU]
  rw [CM]
  cases cell (lk fr .any t) with
  | none=>rfl
  | some row =>
   simp only [Option.bind_some,WE cell b g l]
   split <;> rfl
def AP:List Nat->List (Nat × V)->List (Nat × V)
 | [],fr=>fr
 | t :: l,fr=>(t,.any) :: AP l fr
theorem SY:AP [] fr = fr:=rfl
theorem RV (t:Nat) (l:List Nat):AP (t :: l) fr = (t,.any) :: AP l fr:=rfl
theorem Y7 (b:List (Nat × Option aI)):∀ l:List Nat,aIb l ⟨fr,b⟩ = AP l fr
 | []=>rfl
 | t :: l=>by
  show (t,V.any) :: (aIb l ⟨fr,b⟩) = _
  rw [Y7 b l]
  rfl
theorem aKq (out:Nat) (cell:V->Option (List D)) (ks:List (Nat × Nat)) (dead:List Nat) (k:Ex->St->Option β):bP T (.hand (aPk out cell ks dead)) ⟨fr,bl⟩ k = hU fr out fun v=>V9 v fun id ver=>aZ bl id fun b=>aBu ver b fun e rows=>ZO cell fr ks rows fun rows'=>k .normal ⟨AP dead fr,(id,some (.rows ver e 2 rows')) :: bl⟩:=by
 unfold bP
 rw [D7]
 unfold aPk hU
 rw [CM]
 cases lk fr .any out with
 | own id ver =>
  simp only [V9,aZ,aBu]
  rw [CJ]
  cases lk bl none id with
  | none=>rfl
  | some b =>
   cases b with
   | rows v e size rows =>
    simp only
    split
    ·rename_i hc
     obtain ⟨rfl,rfl⟩:=hc
     rw [WE cell bl]
     cases XE cell ⟨fr,bl⟩ ks rows with
     | none=>rfl
     | some rows'=>simp only [Option.map_some,Option.bind_some,Y7]
    ·rfl
   | _=>rfl
 | _=>rfl
def aTI (v:V) (g:Int->Option β):Option β:=match v with
 | .d (.int .i64 n)=>g n
 | _=>none
def aTV (v:V) (g:Bool->Option β):Option β:=match v with
 | .d (.bool b)=>g b
 | _=>none
theorem aRc (n:Int) (g:Int->Option β):aTI (.d (.int .i64 n)) g = g n:=rfl
theorem aQi (b:Bool) (g:Bool->Option β):aTV (.d (.bool b)) g = g b:=rfl
end
end Vm
end Go.Proofs.Ytgjcnbgfaimepaa
namespace Go.Proofs.Ytgjcnbgfaimepaa
namespace Vm
open Go.RowKit Go.Maps
def bU.now (b:bU) (w:World) (rr it:Nat) (itv:Value):bU:={ w with L:=fun g=>b.own g ∧ g ≠ rr ∧ g < w.heap.size,F:=fun i=>if i = it then some itv else none,O:=b.O,M:=b.M }
section
variable {P:Program} {nt:Nat} {w0:bU} {w w' : World} {h0 h h' : Hp} {fr fr' : Nat->V} {bl bl' : Nat->Option aI} {a a' : Act} {hd hd' : Nat->Value} {rr it:Nat} {itv:Value}
theorem WB {b:bU} (hs:b.heap.size <= w.heap.size) {g:Nat} (h:(b.now w rr it itv).own g):b.own g:=by
 rcases h with h | h
 ·exact .inl (Nat.le_trans hs h)
 ·exact h.1
theorem aCx {b:bU} (hlt:rr < w.heap.size):¬ (b.now w rr it itv).own rr:=by
 rintro (h | h)
 ·exact absurd h (Nat.not_le_of_lt hlt)
 ·exact h.2.1 rfl
theorem BR.rebase {b0 b1:bU} {id:Nat} {b:aI} (hown:b.live = true->∀ g,eU (hd id) = some g->b0.own g) (hO:b0.O = b1.O) (r:BR b1 w h hd bl id b):BR b0 w h hd bl id b:=by
 cases b with
 | box cs =>
  obtain ⟨g,arr,e,h1,h2,h3⟩:=r
  exact ⟨g,arr,e,h1,hown rfl g (by rw [h1]; rfl),h3⟩
 | rows ver e size rows =>
  obtain ⟨h1,h2,h3,h4⟩:=r
  exact ⟨h1,h2,h3,fun g hg=>⟨(h4 g hg).1,hown rfl g hg⟩⟩
 | froz ver rows=>exact r
 | fbox cs=>exact r
 | mp ek m =>
  obtain ⟨g,h1,h2,h3⟩:=r
  exact ⟨g,h1,hown rfl g (by rw [h1]; rfl),h3⟩
 | fmp ek m=>exact r
 | outer cs =>
  intro j x hx
  rw [hO]
  exact r j x hx
theorem Rl.now (r:Rl nt w0 h0 fr bl a w h hd) (hS:aGR w0 h bl hd rr) (hit:a.tmps.getD it undef = itv):Rl nt (w0.now w rr it itv) h fr bl a w h hd where
 tmps:=r.tmps
 defers:=r.defers
 fixed:=fun t v e=>by
  simp only [bU.now] at e
  split at e
  ·rename_i q; cases e; rw [q]; exact hit
  ·cases e
 below:=zX.refl _ _
 hle:=r.hle
 h0le:=Hp.le.refl _
 hbase:=fun _ _=>rfl
 frame:=r.frame
 blk:=fun id b hb=>BR.rebase (b1:=w0) (fun hl g hg=>by
  obtain ⟨q1,q2,_⟩:=(r.blk id b hb).num hl hg
  exact .inr ⟨q1,fun e=>hS.off id b hb hl (e ▸ hg),q2⟩) rfl (r.blk id b hb)
 sep:=r.sep
theorem Rl.back (hF:∀ t,w0.F t = none) (r:Rl nt w0 h0 fr bl a w h hd) (r' : Rl nt (w0.now w rr it itv) h fr' bl' a' w' h' hd'):Rl nt w0 h0 fr' bl' a' w' h' hd' where
 tmps:=r'.tmps
 defers:=r'.defers
 fixed:=fun t v e=>by rw [hF t] at e; cases e
 below:=r.below.trans ⟨r'.below.os,r'.below.tape,r'.below.output,r'.below.size,fun k hk=>r'.below.block k fun q=>hk (WB r.below.size q)⟩
 hle:=r'.hle
 h0le:=r.h0le.trans r'.h0le
 hbase:=fun b hb=>(r'.hbase b fun q=>hb (WB r.below.size q)).trans (r.hbase b hb)
 frame:=r'.frame
 blk:=fun id b hb=>BR.rebase (b1:=w0.now w rr it itv) (fun hl g hg=>WB r.below.size ((r'.blk id b hb).num hl hg).1) rfl (r'.blk id b hb)
 sep:=r'.sep
theorem aGR.back (hS:aGR w0 h bl hd rr) (hlt:rr < w.heap.size) (r' : Rl nt (w0.now w rr it itv) h fr' bl' a' w' h' hd'):aGR w0 h' bl' hd' rr ∧ w'.heap[rr]? = w.heap[rr]? :=
 ⟨⟨hS.own,(r'.hbase rr (aCx hlt)).trans hS.out,fun id b hb hl q=>aCx hlt ((r'.blk id b hb).num hl q).1⟩,r'.below.block rr (aCx hlt)⟩
structure aDe where
 it:Nat
 nx:Nat
 ok:Nat
 en:Nat
 k1:Nat
 kk:Nat
def aDe.slots (L:aDe):List Nat:=[L.nx,L.ok,L.en,L.k1,L.kk]
structure aUe (L:aDe) (oN oX e0 e1 e2:Oper):Prop where
 hN:oN.guard = none ∧ oN.op = .next (.tmp L.it) false ∧ oN.dst = some L.nx
 hX:oX.guard = none ∧ oX.op = .extract (.tmp L.nx) 0 ∧ oX.dst = some L.ok
 h0:e0.guard = none ∧ e0.op = .entry (.tmp L.it) ∧ e0.dst = some L.en
 h1:e1.guard = none ∧ e1.op = .extract (.tmp L.en) 0 ∧ e1.dst = some L.k1
 h2:e2.guard = none ∧ (e2.op = .assign (.tmp L.k1) ∨ e2.op = .move (.tmp L.k1)) ∧ e2.dst = some L.kk
def T6 (l:List (Int × ML)) (k:Int):Bool:=l.any fun p=>decide (p.1 = k)
structure aUa (ek0:Nat) (C:Nat->List D->Option D) (n m:Nat) (L:aDe) (sc:aH) (s s2:St):Prop where
 ex:∃ (ek:Nat) (l:List (Int × ML)) (Inv:(Int->Bool)->(Nat->V)->(Nat->Option aI)->Prop),(MZ m s).get m = .d (.mp ek l) ∧ (ek = ek0 ∨ ek = 2) ∧
  (∀ left fr bl fr',Inv left fr bl->(∀ t,t ∉ L.it :: L.slots->fr' t = fr t)->Inv left fr' bl) ∧
  (∀ left (s:St) (k:Int),mA k->Inv left s.get s.blk->left k = true->s.get L.kk = .d (.int .i64 k)->∃ s',aO C n sc s = some (.normal,s') ∧ Inv (fun z=>left z && !decide (z = k)) s'.get s'.blk) ∧
  Inv (fun k=>T6 l k) (MZ m s).get (MZ m s).blk ∧
  ∀ s' : St,Inv (fun _=>false) s'.get s'.blk->(∀ t,s2.get t = .any ∨ s2.get t = s'.get t) ∧ s2.blk = s'.blk
def VB (l m:List (Int × ML)):List (Int × ML):=m.filter fun p=>!T6 l p.1
def C3 (dead:List Nat) (fr:List (Nat × V)):List (Nat × V):=dead.map (fun t=>(t,V.any)) ++ fr
def aCW (ek0 m inn:Nat) (dead:List Nat) (s:St):Option St:=match (MZ m s).get m,(MZ m s).get inn with
 | .d (.mp ek l),.mp id=>match (MZ m s).blk id with
  | some (.mp ek' l2)=>if (ek = ek0 ∨ ek = 2) ∧ ek' = ek0 then some ⟨C3 dead (MZ m s).fr,(id,some (.mp ek' (VB l l2))) :: (MZ m s).bl⟩ else none
  | _=>none
 | .d (.mp ek l),.d (.mp 2 [])=>if ek = ek0 ∨ ek = 2 then some ⟨C3 dead (MZ m s).fr,(MZ m s).bl⟩ else none
 | _,_=>none
def KI (l:List (Int × ML)) (n:Nat):Bool:=l.all fun p=>decide (0 <= p.1) && decide (p.1.toNat < n)
def WJ (l:List (Int × ML)) (rows:List (List D)):List (List D):=rows.mapIdx fun i row=>if T6 l (i:Int) = true then [.bool true] else row
def aDn (ek0 m out:Nat) (dead:List Nat) (s:St):Option St:=match (MZ m s).get m,(MZ m s).get out with
 | .d (.mp ek l),.own id ver=>match (MZ m s).blk id with
  | some (.rows v e size rows)=>if (ek = ek0 ∨ ek = 2) ∧ ver = v ∧ size = 1 ∧ KI l rows.length = true ∧ sized 1 rows = true then some ⟨C3 dead (MZ m s).fr,(id,some (.rows v e size (WJ l rows))) :: (MZ m s).bl⟩ else none
  | _=>none
 | _,_=>none
end
def aTt:Code->Code
 | .block _ c=>c
 | .loop c=>c
 | c=>c
section
variable {P:Program} {nt:Nat}
theorem aY.cond {co:Operand} {o:bD} {c d:Code} {x y:aH} (h0:gE co = some o) (h1:aY P nt c x) (h2:aY P nt d y):aY P nt (.cond co c d) (.cond o x y):=by
 intro C hC n w0 h0' s s' ex a w h hd Q hF he r hQ
 have hc:=aU r.frame h0
 simp only [aO] at he
 split at he
 ·rename_i hb
  rw [hb] at hc
  exact wp_cond_true (i9 hc) (h1 C hC n w0 h0' s s' ex a w h hd Q hF he r hQ)
 ·rename_i hb
  rw [hb] at hc
  exact wp_cond_false (i9 hc) (h2 C hC n w0 h0' s s' ex a w h hd Q hF he r hQ)
 ·cases he
theorem aY.block {id:Nat} {c:Code} {x:aH} (h1:aY P nt c x):aY P nt (.block id c) (.block id x):=by
 intro C hC n w0 h0 s s' ex a w h hd Q hF he r hQ
 refine wp_block ?_
 simp only [aO] at he
 split at he
 ·rename_i id'' s1 he1
  refine h1 C hC n w0 h0 s s1 (.exit id'') a w h hd _ hF he1 r fun a' w' h' hd' r'=>?_
  simp only [Ex.go,Exit.inBlock]
  split at he
  ·rename_i hid
   cases he
   rw [if_pos hid]
   exact hQ _ _ _ _ r'
  ·rename_i hid
   cases he
   rw [if_neg hid]
   exact hQ _ _ _ _ r'
 ·rename_i hne
  refine h1 C hC n w0 h0 s s' ex a w h hd _ hF he r fun a' w' h' hd' r'=>?_
  cases ex with
  | normal=>exact hQ _ _ _ _ r'
  | exit id=>exact absurd he (hne _ _)
  | ret=>exact hQ _ _ _ _ r'
theorem aY.loop {c:Code} {x:aH} (h1:aY P nt c x):aY P nt (.loop c) (.loop x):=by
 intro C hC n w0 h0 s s' ex a w h hd Q hF he r hQ
 simp only [aO] at he
 refine QC (fun k a w=>∃ s h hd,qI (aO C n x) k s = some (ex,s') ∧ Rl nt w0 h0 s.get s.blk a w h hd) (fun a w ⟨s,h,hd,q,_⟩=>by simp [qI] at q) ?_ n a w ⟨s,h,hd,he,r⟩
 rintro k a w ⟨s,h,hd,q,r⟩
 simp only [qI] at q
 split at q
 ·rename_i s1 he1
  exact h1 C hC n w0 h0 s s1 .normal a w h hd _ hF he1 r fun a' w' h' hd' r'=>⟨s1,h',hd',q,r'⟩
 ·rename_i hne
  refine h1 C hC n w0 h0 s s' ex a w h hd _ hF q r fun a' w' h' hd' r'=>?_
  cases ex with
  | normal=>exact absurd q (hne _)
  | exit id=>exact hQ _ _ _ _ r'
  | ret=>exact hQ _ _ _ _ r'
end
end Vm
end Go.Proofs.Ytgjcnbgfaimepaa
namespace Go.Proofs.Ytgjcnbgfaimepaa
namespace Vm
open Go.RowKit
abbrev MB:=List (Int × Bool)
def mB (m:MB):List (Int × ML):=m.map fun p=>(p.1,ML.b p.2)
def eB:Option MB->D
 | none=>.mp 2 []
 | some m=>.mp 1 (mB m)
def inM (m:MB) (k:Int):Bool:=m.any fun p=>decide (p.1 = k)
def aT2 (k:Int) (z:Bool):Option MB->Bool
 | none=>z
 | some m=>zS k z m
def aRp (l m:MB):MB:=m.filter fun p=>!inM l p.1
def aTa (l:Option MB) (m:MB):MB:=match l with
 | none=>m
 | some l=>aRp l m
def aJP (l:MB) (n:Nat):Bool:=l.all fun p=>decide (0 <= p.1) && decide (p.1.toNat < n)
def aIN (l:MB) (xs:List Bool):List Bool:=xs.mapIdx fun i b=>if inM l (i:Int) = true then true else b
theorem aH4 (k:Int) (b:Bool):∀ m:MB,BO k (ML.b b) (mB m) = mB (BO k b m)
 | []=>rfl
 | y :: r=>by
  show (if k < y.1 then _ else _) = mB (if k < y.1 then _ else _)
  split
  ·rfl
  ·show (y.1,ML.b y.2) :: BO k (.b b) (mB r) = (y.1,ML.b y.2) :: mB (BO k b r)
   rw [aH4 k b r]
theorem aKm (k:Int) (m:MB):CB k (mB m) = mB (CB k m):=by
 unfold CB mB
 rw [List.filter_map]
 rfl
theorem aQn (k:Int) (b:Bool) (m:MB):HS k (ML.b b) (mB m) = mB (HS k b m):=by
 unfold HS
 rw [aKm,aH4]
theorem aJU (k:Int) (z:Bool) (m:MB):zS k (ML.b z) (mB m) = .b (zS k z m):=by
 unfold zS mB
 rw [List.find?_map]
 have e:(fun p:Int × ML=>decide (p.1 = k)) ∘ (fun p:Int × Bool=>(p.1,ML.b p.2)) = fun p:Int × Bool=>decide (p.1 = k):=rfl
 rw [e]
 cases m.find? fun p=>decide (p.1 = k) <;> rfl
theorem aRi (m:MB):(mB m).length = m.length:=List.length_map ..
theorem aPx (l:MB) (k:Int):T6 (mB l) k = inM l k:=by
 unfold T6 mB inM
 rw [List.any_map]
 rfl
theorem aPO (l m:MB):VB (mB l) (mB m) = mB (aRp l m):=by
 unfold VB aRp
 simp only [aPx]
 show (m.map _).filter _ = _
 rw [List.filter_map]
 rfl
theorem aMq (m:MB):VB [] (mB m) = mB m:=by
 unfold VB T6
 simp
theorem aLO (l:MB) (n:Nat):KI (mB l) n = aJP l n:=by
 unfold KI mB aJP
 rw [List.all_map]
 rfl
theorem aQ7 (l:MB) (xs:List Bool):WJ (mB l) (cM cB xs) = cM cB (aIN l xs):=by
 unfold WJ aIN cM
 apply List.ext_getElem?
 intro i
 simp only [List.getElem?_mapIdx,List.getElem?_map,aPx]
 cases xs[i]? with
 | none=>rfl
 | some b =>
  simp only [Option.map_some]
  cases inM l (i:Int) <;> rfl
theorem RY (m:MB):(mB m).isEmpty = true ∨ (1:Nat) = 1:=.inr rfl
section
variable {β:Type} {T:vS} {d:Nat} {fr:List (Nat × V)} {bl:List (Nat × Option aI)} {k:V->Option β} {kw:V->List (Nat × Option aI)->Option β}
theorem aFE (ek:Nat):rE T d (.mkmap ek) fr bl k kw = aZ bl d fun b=>fL b (kw (.mp d) [(d,some (.mp ek []))]):=by
 unfold rE aZ
 simp only [b8]
 cases lk bl none d <;> rfl
theorem aAH:rE T d (.mkmap 1) fr bl k kw = aZ bl d fun b=>fL b (kw (.mp d) [(d,some (.mp 1 (mB [])))]):=aFE 1
def aKl (ek:Nat) (m a x:V) (bl:List (Nat × Option aI)) (k:V->Option β) (kw:V->List (Nat × Option aI)->Option β):Option β:=FD (match m,I3 a,aFW x with
  | .mp id,some n,some x=>match lk bl none id with
   | some (.mp ek' l)=>if x.kind = ek ∧ ek' = ek ∧ l.length < 1000000000000 then some (.any,[(id,some (.mp ek (HS n x l)))]) else none
   | _=>none
  | _,_,_=>none) k kw
theorem aJS (ek:Nat) (m a x:bD):rE T d (.mput ek m a x) fr bl k kw = bN fr m fun mv=>bN fr a fun av=>bN fr x fun xv=>aKl ek mv av xv bl k kw:=by
 rw [iK]
 rfl
def U5 (n:Int) (b:Bool) (id:Nat) (y:Option aI) (kw:V->List (Nat × Option aI)->Option β):Option β:=match y with
 | some (.mp 1 l)=>if l.length < 1000000000000 then kw .any [(id,some (.mp 1 (HS n (.b b) l)))] else none
 | _=>none
theorem aGt (id:Nat) (n:Int) (b:Bool):aKl 1 (.mp id) (.d (.int .i64 n)) (.d (.bool b)) bl k kw = if mA n then aZ bl id fun y=>U5 n b id y kw else none:=by
 unfold aKl
 simp only [I3,aFW]
 by_cases h:mA n
 ·rw [if_pos h,if_pos h]
  unfold aZ
  simp only
  cases lk bl none id with
  | none=>rfl
  | some y =>
   cases y with
   | mp ek l =>
    simp only [ML.kind,true_and]
    by_cases e:ek = 1
    ·subst e
     simp only [true_and,U5]
     split <;> rfl
    ·rw [if_neg (fun q=>e q.1)]
     match ek,e with
     | 0,_=>rfl
     | 1,e=>exact absurd rfl e
     | _ + 2,_=>rfl
   | _=>rfl
 ·rw [if_neg h,if_neg h]
  rfl
theorem aE8 (n:Int) (b:Bool) (id:Nat) (m:MB):U5 n b id (some (.mp 1 (mB m))) kw = if m.length < 1000000000000 then kw .any [(id,some (.mp 1 (mB (HS n b m))))] else none:=by
 unfold U5
 simp only [aRi,aQn]
def OP (z:ML) (m a:V) (bl:List (Nat × Option aI)) (k:V->Option β):Option β:=match SB (lk bl none) m,I3 a with
 | some (ek,l),some n=>if l.isEmpty = true ∨ z.kind = ek then k (.d (zS n z l).d) else none
 | _,_=>none
theorem aIM (z:ML) (m a:bD):rE T d (.mget z m a) fr bl k kw = bN fr m fun mv=>bN fr a fun av=>OP z mv av bl k:=by
 unfold rE bN OP
 simp only [b8]
 cases SB (lk bl none) (bC (lk fr .any) m) with
 | none=>rfl
 | some p =>
  cases I3 (bC (lk fr .any) a) with
  | none=>rfl
  | some n =>
   obtain ⟨ek,l⟩:=p
   simp only
   by_cases h:l.isEmpty = true ∨ z.kind = ek
   ·rw [if_pos h,if_pos h]
   ·rw [if_neg h,if_neg h]
def aA3 (z:Bool) (n:Int) (y:Option aI) (k:V->Option β):Option β:=match y with
 | some (.mp ek l)=>if l.isEmpty = true ∨ 1 = ek then k (.d (zS n (.b z) l).d) else none
 | some (.fmp ek l)=>if l.isEmpty = true ∨ 1 = ek then k (.d (zS n (.b z) l).d) else none
 | _=>none
theorem aFZ (z:Bool) (id:Nat) (n:Int):OP (.b z) (.mp id) (.d (.int .i64 n)) bl k = if mA n then aZ bl id fun y=>aA3 z n y k else none:=by
 unfold OP
 simp only [I3,SB]
 by_cases h:mA n
 ·rw [if_pos h,if_pos h]
  unfold aZ
  cases lk bl none id with
  | none=>rfl
  | some y=>cases y <;> rfl
 ·rw [if_neg h,if_neg h]
  cases lk bl none id with
  | none=>rfl
  | some y=>cases y <;> rfl
theorem T8 (z:Bool) (n:Int) (m:MB):aA3 z n (some (.mp 1 (mB m))) k = k (.d (.bool (zS n z m))):=by
 show (if (mB m).isEmpty = true ∨ (1:Nat) = 1 then k (.d (zS n (.b z) (mB m)).d) else none) = _
 rw [if_pos (RY m),aJU]
 rfl
theorem aBb (z:Bool) (n:Int) (m:MB):aA3 z n (some (.fmp 1 (mB m))) k = k (.d (.bool (zS n z m))):=T8 z n m
theorem aCS (z:Bool) (n:Int) (m:MB):OP (.b z) (.d (.mp 1 (mB m))) (.d (.int .i64 n)) bl k = if mA n then k (.d (.bool (zS n z m))) else none:=by
 unfold OP
 simp only [I3,SB]
 by_cases h:mA n
 ·rw [if_pos h,if_pos h]
  show (if (mB m).isEmpty = true ∨ (1:Nat) = 1 then k (.d (zS n (.b z) (mB m)).d) else none) = _
  rw [if_pos (RY m),aJU]
  rfl
 ·rw [if_neg h,if_neg h]
theorem aOu (z:Bool) (n:Int) (x:Option MB):OP (.b z) (.d (eB x)) (.d (.int .i64 n)) bl k = if mA n then k (.d (.bool (aT2 n z x))) else none:=by
 cases x with
 | none =>
  unfold OP
  simp only [I3,SB,eB]
  by_cases h:mA n
  ·rw [if_pos h,if_pos h]; rfl
  ·rw [if_neg h,if_neg h]
 | some m=>exact aCS z n m
def aLd (ek:Nat) (m a:V) (bl:List (Nat × Option aI)) (k:V->Option β) (kw:V->List (Nat × Option aI)->Option β):Option β:=FD (match m,I3 a with
  | .d (.mp 2 []),some _=>some (.any,[])
  | .mp id,some n=>match lk bl none id with
   | some (.mp ek' l)=>if ek' = ek then some (.any,[(id,some (.mp ek (CB n l)))]) else none
   | _=>none
  | _,_=>none) k kw
theorem aIY (ek:Nat) (m a:bD):rE T d (.mdel ek m a) fr bl k kw = bN fr m fun mv=>bN fr a fun av=>aLd ek mv av bl k kw:=by
 rw [iK]
 rfl
def VA (n:Int) (id:Nat) (y:Option aI) (kw:V->List (Nat × Option aI)->Option β):Option β:=match y with
 | some (.mp ek l)=>if ek = 1 then kw .any [(id,some (.mp 1 (CB n l)))] else none
 | _=>none
theorem aD9 (id:Nat) (n:Int):aLd 1 (.mp id) (.d (.int .i64 n)) bl k kw = if mA n then aZ bl id fun y=>VA n id y kw else none:=by
 unfold aLd
 simp only [I3]
 by_cases h:mA n
 ·rw [if_pos h,if_pos h]
  unfold aZ
  simp only
  cases lk bl none id with
  | none=>rfl
  | some y =>
   cases y with
   | mp ek l =>
    simp only [VA]
    split <;> rfl
   | _=>rfl
 ·rw [if_neg h,if_neg h]
  rfl
theorem aGi (n:Int) (id:Nat) (m:MB):VA n id (some (.mp 1 (mB m))) kw = kw .any [(id,some (.mp 1 (mB (CB n m))))]:=by
 unfold VA
 simp only [if_true,aKm]
theorem aEW (i:Nat) (k:List V->Option β):uR (.mp i) k = k [.mp i]:=rfl
def d1M (id:Nat) (b:Option aI) (k:D->List (Nat × Option aI)->Option β):Option β:=match b with
 | some (.mp ek m)=>k (.mp ek m) [(id,some (.fmp ek m))]
 | some (.fmp ek m)=>k (.mp ek m) []
 | _=>none
theorem aRr (id ek:Nat) (m:List (Int × ML)) (k:D->List (Nat × Option aI)->Option β):d1M id (some (.mp ek m)) k = k (.mp ek m) [(id,some (.fmp ek m))]:=rfl
theorem aOh (id ek:Nat) (m:List (Int × ML)) (k:D->List (Nat × Option aI)->Option β):d1M id (some (.fmp ek m)) k = k (.mp ek m) []:=rfl
theorem aQh (id:Nat) (k:D->List (Nat × Option aI)->Option β):RZ (.mp id) bl k = aZ bl id fun b=>d1M id b k:=by
 unfold RZ aZ d1M
 simp only [iD,AG,qU,IY]
 generalize lk bl none id = b
 cases b with
 | none=>rfl
 | some b=>cases b <;> rfl
theorem aNa (id:Nat) (k:D->List (Nat × Option aI)->Option β):AO (.mp id) bl k = RZ (.mp id) bl k:=rfl
theorem aHE (id:Nat) (cs:List V) (kk:List D->List (Nat × Option aI)->Option β):wT bl (.mp id :: cs) kk = RZ (.mp id) bl fun x g=>wT bl cs fun ds f=>kk (x :: ds) (g ++ f):=by
 rw [LS]
 unfold RZ
 simp only [aK,List.flatMap_cons,LS]
 cases iD (lk bl none) (.mp id) with
 | none=>rfl
 | some x =>
  cases aK (iD (lk bl none)) cs <;> rfl
theorem aNk (id:Nat) (k:List D->List (Nat × Option aI)->Option β):LU (.mp id) bl k = RZ (.mp id) bl fun x f=>k [x] f:=by
 unfold LU RZ
 show (match aK (iD (lk bl none)) [.mp id] with | some row=>k row (AG (lk bl none) (.mp id)) | none=>none) = _
 simp only [aK]
 cases iD (lk bl none) (.mp id) <;> rfl
def oA:List V->Option β->Option β
 | [],y=>y
 | v :: l,y=>if v.noTup = true then oA l y else none
theorem SV (y:Option β):∀ l:List V,oA l y = if l.all V.noTup = true then y else none
 | []=>rfl
 | v :: l=>by
  by_cases h:v.noTup = true
  ·simp [oA,h,SV y l]
  ·simp [oA,h]
theorem aMW (dst:Option Nat) (slots:List Nat) (cs:List V) (v u:V) (l:List V) (k:List (Nat × V)->Option β):S2 dst slots cs (v :: u :: l) k = oA (v :: u :: l) (k (N5 dst (.tup (v :: u :: l)) ++ slots.zip cs)):=by
 rw [RA,SV]
theorem aCm (y:Option β):oA [] y = y:=rfl
theorem aJh (x:D) (l:List V) (y:Option β):oA (.d x :: l) y = oA l y:=rfl
theorem aGM (i:Nat) (l:List V) (y:Option β):oA (.mp i :: l) y = oA l y:=rfl
theorem aB7 (i v:Nat) (l:List V) (y:Option β):oA (.own i v :: l) y = oA l y:=rfl
theorem aCw (i v:Nat) (l:List V) (y:Option β):oA (.ptr i v :: l) y = oA l y:=rfl
theorem aKG (l:List V) (y:Option β):oA (.nil :: l) y = oA l y:=rfl
theorem aB8 (cs l:List V) (y:Option β):oA (.agg cs :: l) y = oA l y:=rfl
theorem X0 (ds:List D) (l:List V) (y:Option β):oA (kM ds :: l) y = oA l y:=rfl
def aPb (id:Nat) (b:Option aI) (k:V->List (Nat × Option aI)->Option β) (y:Option β):Option β:=match b with
 | some (.mp ek m)=>k (.d (.mp ek m)) [(id,some (.fmp ek m))]
 | some (.fmp ek m)=>k (.d (.mp ek m)) []
 | _=>y
theorem aMR (id:Nat) (k:V->List (Nat × Option aI)->Option β) (y:Option β):JP (.mp id) bl k y = aZ bl id fun b=>aPb id b k y:=by
 unfold JP aZ aPb
 simp only [qU,IY]
 generalize lk bl none id = b
 cases b with
 | none=>rfl
 | some b=>cases b <;> rfl
theorem aOL (id ek:Nat) (m:List (Int × ML)) (k:V->List (Nat × Option aI)->Option β) (y:Option β):aPb id (some (.mp ek m)) k y = k (.d (.mp ek m)) [(id,some (.fmp ek m))]:=rfl
theorem aJY (id ek:Nat) (m:List (Int × ML)) (k:V->List (Nat × Option aI)->Option β) (y:Option β):aPb id (some (.fmp ek m)) k y = k (.d (.mp ek m)) []:=rfl
section
variable (keep:List Nat)
def P0 (id:Nat) (b:Option aI) (k:V->Option β):Option β:=match b with
 | some (.mp _ _)=>e7 keep id (k (.mp id)) (k .any)
 | some (.fmp ek m)=>k (.d (.mp ek m))
 | _=>k .any
theorem aJX (id:Nat):oT keep bl (.mp id) k = aZ bl id fun b=>P0 keep id b k:=by
 unfold oT aZ P0 e7
 simp only [FX,OG,sJ]
 generalize lk bl none id = b
 cases b with
 | none=>rfl
 | some b=>cases b <;> first | rfl | (simp only; cases h:keep.contains id <;> simp)
theorem aEN (id ek:Nat) (m:List (Int × ML)):P0 keep id (some (.mp ek m)) k = e7 keep id (k (.mp id)) (k .any):=rfl
theorem aAv (id ek:Nat) (m:List (Int × ML)):P0 keep id (some (.fmp ek m)) k = k (.d (.mp ek m)):=rfl
theorem YS (id:Nat):P0 keep id none k = k .any:=rfl
theorem aGg (id:Nat) (cs:List V) (k:List V->Option β):qR keep bl (.mp id :: cs) k = oT keep bl (.mp id) fun v=>qR keep bl cs fun l=>k (v :: l):=by simp only [rZ]; rfl
theorem aFi (ek:Nat) (m:List (Int × ML)) (k:Option aI->Option β):xI keep bl (some (.mp ek m)) k = k (some (.mp ek m)):=rfl
theorem aAW (ek:Nat) (m:List (Int × ML)) (k:Option aI->Option β):xI keep bl (some (.fmp ek m)) k = k none:=rfl
end
theorem aMj (i:Nat) (k:List Nat->Option β):H3 (.mp i) k = k [i]:=rfl
theorem aK4 (i:Nat) (k:List Nat->Option β):yM bl (.mp i) k = k [i]:=rfl
theorem aFf (i:Nat) (cs:List V) (k:List Nat->Option β):rJ bl (.mp i :: cs) k = rJ bl cs fun l=>k (i :: l):=by simp only [vL]; rfl
theorem aEp (i:Nat) (cs:List V) (k:List Nat->Option β):rS (.mp i :: cs) k = rS cs fun l=>k (i :: l):=by simp only [vI]; rfl
theorem T9 {m:Nat} {g:V->List (Nat × V)->List (Nat × Option aI)->Option St} {f:St->Option St} (hf:∀ s:St,f s = match (MZ m s).get m with
  | .d x=>g (.d x) (MZ m s).fr (MZ m s).bl
  | _=>none) (k:Ex->St->Option β):bP T (.hand f) ⟨fr,bl⟩ k = hU fr m fun v=>JP v bl (fun v' wr=>match g v' ((m,v') :: fr) (wr ++ bl) with
  | some s=>k .normal s
  | none=>none) none:=by
 unfold bP
 have hfr:MZ m ⟨fr,bl⟩ = (match qU (lk bl none) (lk fr .any m) with
  | some d=>⟨(m,.d d) :: fr,IY (lk bl none) (lk fr .any m) ++ bl⟩
  | none=>⟨fr,bl⟩ : St):=rfl
 rw [D7,hf,hfr]
 unfold hU JP
 have e:(⟨fr,bl⟩ : St).get m = lk fr .any m:=rfl
 generalize lk fr .any m = v at e
 cases h:qU (lk bl none) v with
 | none =>
  simp only
  rw [e]
  cases v with
  | d x=>cases h
  | _=>simp only [h]; rfl
 | some x =>
  simp only
  have e:(⟨(m,V.d x) :: fr,IY (lk bl none) v ++ bl⟩ : St).get m = .d x:=by simp [St.get,lk]
  rw [e]
  simp only [h]
  cases g (.d x) ((m,.d x) :: fr) (IY (lk bl none) v ++ bl) <;> rfl
def FU (ek0:Nat) (v u:V) (bl:List (Nat × Option aI)) (kk:List (Nat × Option aI)->Option β):Option β:=match v,u with
 | .d (.mp ek l),.mp id=>match lk bl none id with
  | some (.mp ek' l2)=>if (ek = ek0 ∨ ek = 2) ∧ ek' = ek0 then kk [(id,some (.mp ek' (VB l l2)))] else none
  | _=>none
 | .d (.mp ek l),.d (.mp 2 [])=>if ek = ek0 ∨ ek = 2 then kk [] else none
 | _,_=>none
theorem IJ (dead:List Nat) (fr:List (Nat × V)):C3 dead fr = AP dead fr:=by
 induction dead with
 | nil=>rfl
 | cons t l ih =>
  show (t,V.any) :: C3 l fr = (t,V.any) :: AP l fr
  rw [ih]
theorem YI (ek0 m inn:Nat) (dead:List Nat) (k:Ex->St->Option β):bP T (.hand (aCW ek0 m inn dead)) ⟨fr,bl⟩ k = hU fr m fun v=>JP v bl (fun v' wr=>hU ((m,v') :: fr) inn fun u=>FU ek0 v' u (wr ++ bl) fun w2=>k .normal ⟨AP dead ((m,v') :: fr),w2 ++ (wr ++ bl)⟩) none:=by
 rw [T9 (g:=fun v fr bl=>FU ek0 v (lk fr .any inn) bl fun w2=>some ⟨AP dead fr,w2 ++ bl⟩) (fun s=>?_) k]
 ·unfold hU
  refine congrArg (fun q=>JP (lk fr .any m) bl q none) ?_
  funext v' wr
  generalize lk ((m,v') :: fr) .any inn = u
  unfold FU
  cases v' with
  | d x =>
   cases x with
   | mp ek l =>
    cases u with
    | mp id =>
     simp only
     cases lk (wr ++ bl) none id with
     | none=>rfl
     | some y =>
      cases y with
      | mp ek' l2=>by_cases hc:(ek = ek0 ∨ ek = 2) ∧ ek' = ek0 <;> first | (simp only [if_pos hc]; done) | (simp only [if_neg hc]; done)
      | _=>rfl
    | d y =>
     cases y with
     | mp e2 l2 =>
      match e2,l2 with
      | 2,[]=>by_cases hc:ek = ek0 ∨ ek = 2 <;> first | (simp only [if_pos hc]; done) | (simp only [if_neg hc]; done)
      | 2,_ :: _=>rfl
      | 0,_=>rfl
      | 1,_=>rfl
      | _ + 3,_=>rfl
     | _=>rfl
    | _=>rfl
   | _=>rfl
  | _=>rfl
 ·unfold aCW FU
  generalize MZ m s = s1
  have e1:s1.get inn = lk s1.fr .any inn:=rfl
  rw [e1]
  cases s1.get m with
  | d x =>
   cases x with
   | mp ek l =>
    cases lk s1.fr .any inn with
    | mp id =>
     simp only
     have e2:s1.blk id = lk s1.bl none id:=rfl
     rw [e2]
     cases lk s1.bl none id with
     | none=>rfl
     | some y =>
      cases y with
      | mp ek' l2=>simp only [IJ]; rfl
      | _=>rfl
    | d y =>
     cases y with
     | mp e2 l2 =>
      match e2,l2 with
      | 2,[]=>simp only [IJ]; rfl
      | 2,_ :: _=>rfl
      | 0,_=>rfl
      | 1,_=>rfl
      | _ + 3,_=>rfl
     | _=>rfl
    | _=>rfl
   | _=>cases lk s1.fr .any inn <;> rfl
  | _=>cases lk s1.fr .any inn <;> rfl
def aDF (l:List (Int × ML)) (id:Nat) (y:Option aI) (kk:List (Nat × Option aI)->Option β):Option β:=match y with
 | some (.mp ek' l2)=>if ek' = 1 then kk [(id,some (.mp 1 (VB l l2)))] else none
 | _=>none
theorem Z4 {ek:Nat} (h:ek = 1 ∨ ek = 2) (l:List (Int × ML)) (id:Nat) (kk:List (Nat × Option aI)->Option β):FU 1 (.d (.mp ek l)) (.mp id) bl kk = aZ bl id fun y=>aDF l id y kk:=by
 unfold FU aZ aDF
 simp only
 cases lk bl none id with
 | none=>rfl
 | some y =>
  cases y with
  | mp ek' l2 =>
   simp only
   by_cases e:ek' = 1
   ·subst e
    rw [if_pos ⟨h,rfl⟩,if_pos rfl]
   ·rw [if_neg (fun q=>e q.2),if_neg e]
  | _=>rfl
def aDN (x:Option MB) (id:Nat) (y:Option aI) (kk:List (Nat × Option aI)->Option β):Option β:=match x with
 | none=>aDF [] id y kk
 | some l=>aDF (mB l) id y kk
theorem aCX (l:MB) (id:Nat) (kk:List (Nat × Option aI)->Option β):FU 1 (.d (.mp 1 (mB l))) (.mp id) bl kk = aZ bl id fun y=>aDN (some l) id y kk:=Z4 (.inl rfl) (mB l) id kk
theorem aCV (id:Nat) (kk:List (Nat × Option aI)->Option β):FU 1 (.d (.mp 2 [])) (.mp id) bl kk = aZ bl id fun y=>aDN none id y kk:=Z4 (.inr rfl) [] id kk
theorem aOr (x:Option MB) (id:Nat) (kk:List (Nat × Option aI)->Option β):FU 1 (.d (eB x)) (.mp id) bl kk = aZ bl id fun y=>aDN x id y kk:=by
 cases x with
 | none=>exact aCV id kk
 | some l=>exact aCX l id kk
theorem aJr (l:MB) (kk:List (Nat × Option aI)->Option β):FU 1 (.d (.mp 1 (mB l))) (.d (.mp 2 [])) bl kk = kk []:=rfl
theorem aIf (kk:List (Nat × Option aI)->Option β):FU 1 (.d (.mp 2 [])) (.d (.mp 2 [])) bl kk = kk []:=rfl
theorem aKZ (x:Option MB) (kk:List (Nat × Option aI)->Option β):FU 1 (.d (eB x)) (.d (.mp 2 [])) bl kk = kk []:=by cases x <;> rfl
theorem aJy (x:Option MB) (id:Nat) (m:MB) (kk:List (Nat × Option aI)->Option β):aDN x id (some (.mp 1 (mB m))) kk = kk [(id,some (.mp 1 (mB (aTa x m))))]:=by
 cases x with
 | none =>
  show (if (1:Nat) = 1 then kk [(id,some (.mp 1 (VB [] (mB m))))] else none) = _
  rw [if_pos rfl,aMq]
  rfl
 | some l =>
  show (if (1:Nat) = 1 then kk [(id,some (.mp 1 (VB (mB l) (mB m))))] else none) = _
  rw [if_pos rfl,aPO]
  rfl
def T1 (ek0:Nat) (v u:V) (bl:List (Nat × Option aI)) (kk:List (Nat × Option aI)->Option β):Option β:=match v,u with
 | .d (.mp ek l),.own id ver=>match lk bl none id with
  | some (.rows v e size rows)=>if (ek = ek0 ∨ ek = 2) ∧ ver = v ∧ size = 1 ∧ KI l rows.length = true ∧ sized 1 rows = true then kk [(id,some (.rows v e size (WJ l rows)))] else none
  | _=>none
 | _,_=>none
theorem XS (ek0 m out:Nat) (dead:List Nat) (k:Ex->St->Option β):bP T (.hand (aDn ek0 m out dead)) ⟨fr,bl⟩ k = hU fr m fun v=>JP v bl (fun v' wr=>hU ((m,v') :: fr) out fun u=>T1 ek0 v' u (wr ++ bl) fun w2=>k .normal ⟨AP dead ((m,v') :: fr),w2 ++ (wr ++ bl)⟩) none:=by
 rw [T9 (g:=fun v fr bl=>T1 ek0 v (lk fr .any out) bl fun w2=>some ⟨AP dead fr,w2 ++ bl⟩) (fun s=>?_) k]
 ·unfold hU
  refine congrArg (fun q=>JP (lk fr .any m) bl q none) ?_
  funext v' wr
  generalize lk ((m,v') :: fr) .any out = u
  unfold T1
  cases v' with
  | d x =>
   cases x with
   | mp ek l =>
    cases u with
    | own id ver =>
     simp only
     cases lk (wr ++ bl) none id with
     | none=>rfl
     | some y =>
      cases y with
      | rows v e size rows=>by_cases hc:(ek = ek0 ∨ ek = 2) ∧ ver = v ∧ size = 1 ∧ KI l rows.length = true ∧ sized 1 rows = true <;> first | (simp only [if_pos hc]; done) | (simp only [if_neg hc]; done)
      | _=>rfl
    | _=>rfl
   | _=>rfl
  | _=>rfl
 ·unfold aDn T1
  generalize MZ m s = s1
  have e1:s1.get out = lk s1.fr .any out:=rfl
  rw [e1]
  cases s1.get m with
  | d x =>
   cases x with
   | mp ek l =>
    cases lk s1.fr .any out with
    | own id ver =>
     simp only
     have e2:s1.blk id = lk s1.bl none id:=rfl
     rw [e2]
     cases lk s1.bl none id with
     | none=>rfl
     | some y =>
      cases y with
      | rows v e size rows=>simp only [IJ]; rfl
      | _=>rfl
    | _=>rfl
   | _=>cases lk s1.fr .any out <;> rfl
  | _=>cases lk s1.fr .any out <;> rfl
def UJ (l:List (Int × ML)) (id ver:Nat) (y:Option aI) (kk:List (Nat × Option aI)->Option β):Option β:=match y with
 | some (.rows v e size rows)=>if ver = v ∧ size = 1 ∧ KI l rows.length = true ∧ sized 1 rows = true then kk [(id,some (.rows v e size (WJ l rows)))] else none
 | _=>none
theorem aNu (l:MB) (id ver:Nat) (kk:List (Nat × Option aI)->Option β):T1 1 (.d (.mp 1 (mB l))) (.own id ver) bl kk = aZ bl id fun y=>UJ (mB l) id ver y kk:=by
 unfold T1 aZ UJ
 simp only
 cases lk bl none id with
 | none=>rfl
 | some y =>
  cases y with
  | rows v e size rows =>
   simp only
   by_cases h:ver = v ∧ size = 1 ∧ KI (mB l) rows.length = true ∧ sized 1 rows = true
   ·rw [if_pos h,if_pos ⟨.inl trivial,h⟩]
   ·rw [if_neg h,if_neg fun q=>h q.2]
  | _=>rfl
theorem ZL (l:MB) (id v e:Nat) (xs:List Bool) (kk:List (Nat × Option aI)->Option β):UJ (mB l) id v (some (.rows v e 1 (cM cB xs))) kk = if aJP l xs.length = true then kk [(id,some (.rows v e 1 (cM cB (aIN l xs))))] else none:=by
 unfold UJ
 simp only [vK,aLO,aQ7,W8,true_and,and_true]
end
end Vm
end Go.Proofs.Ytgjcnbgfaimepaa
namespace Go.Proofs.Ytgjcnbgfaimepaa
namespace Vm
open Go.RowKit
abbrev MI:=List (Int × Int)
def mI (m:MI):List (Int × ML):=m.map fun p=>(p.1,ML.i p.2)
def eI:Option MI->D
 | none=>.mp 2 []
 | some m=>.mp 0 (mI m)
section
variable {β:Type} {T:vS} {d:Nat} {fr:List (Nat × V)} {bl:List (Nat × Option aI)} {k:V->Option β} {kw:V->List (Nat × Option aI)->Option β}
end
end Vm
end Go.Proofs.Ytgjcnbgfaimepaa
namespace Go.Proofs.Ytgjcnbgfaimepaa
namespace Vm
open Go.RowKit
section
variable {β α:Type} {T:vS} {d:Nat} {fr:List (Nat × V)} {bl:List (Nat × Option aI)} {k:V->Option β} {kw:V->List (Nat × Option aI)->Option β}
theorem aIX (i:Nat) (l:List V):mW i ([] ++ l) = mW i l:=rfl
theorem aJN (i:Nat) (v:V) (l m:List V):mW i ((v :: l) ++ m) = mW i (v :: (l ++ m)):=rfl
end
end Vm
end Go.Proofs.Ytgjcnbgfaimepaa
namespace Go.Proofs.Ytgjcnbgfaimepaa
namespace Vm
open Go.RowKit
abbrev J9 (o:Oper) (op:Op) (d:Option Nat):Prop:=o.guard = none ∧ o.op = op ∧ o.dst = d
section
variable {P:Program} {w:World}
end
section
variable {P:Program} {nt:Nat} {w0:bU} {w wV:World} {h0 h:Hp} {fr:Nat->V} {bl:Nat->Option aI} {a:Act} {hd:Nat->Value}
end
structure W3 where
 tB:Nat
 tI:Nat
 tK:Nat
 q0:Nat
 c1:Nat
 c2:Nat
 c3:Nat
 c4:Nat
 c5:Nat
 c6:Nat
 ln:Nat
 ls:Nat
 e1:Nat
 e2:Nat
 e3:Nat
 e4:Nat
 e5:Nat
 e6:Nat
 k2:Nat
 ix:Nat
 fa:Nat
 u1:Nat
 u2:Nat
def W3.all (L:W3):List Nat:=[L.tK,L.q0,L.c1,L.c2,L.c3,L.c4,L.c5,L.c6,L.ln,L.ls,L.e1,L.e2,L.e3,L.e4,L.e5,L.e6,L.k2,L.ix,L.fa,L.u1,L.u2]
structure W3.Ok (L:W3):Prop where
 a1:L.q0 ∉ [L.c1,L.c2,L.c3,L.c4,L.c5,L.c6]
 a2:L.q0 ≠ L.ln
 k1:L.tK ≠ L.ls
 k2:L.tK ≠ L.ln
 k3:L.tK ∉ [L.c1,L.c2,L.c3,L.c4,L.c5,L.c6]
 k4:L.tK ≠ L.q0
 k5:L.tK ∉ [L.e1,L.e2,L.e3,L.e4,L.e5,L.e6]
 k6:L.tK ≠ L.fa
 k7:L.tK ≠ L.ix
 k8:L.tK ≠ L.k2
 e6:L.e6 ≠ L.k2
structure aPq (P:Program) where
 tR:TypeId
 fR:Nat
 tS:TypeId
 tO:TypeId
 fO:Nat
 tC:TypeId
 tE:TypeId
 fE:Nat
 tW:TypeId
 fsR:Array Field
 fdR:Field
 fsO:Array Field
 fdO:Field
 fsE:Array Field
 fdE:Field
 iS:TypeInfo
 iO:TypeInfo
 iC:TypeInfo
 iE:TypeInfo
 iW:TypeInfo
 h1:P.underlying tR = some (.struct fsR) ∧ fsR[fR]? = some fdR ∧ P.info? fdR.type = some iS ∧ (iS.size == 0) = false
 h2:kR P tS = some false ∧ P.info? tS = some iS ∧ P.underlying tS = some (.slice tO) ∧ P.info? tO = some iO
 h3:P.underlying tO = some (.struct fsO) ∧ fsO[fO]? = some fdO ∧ P.info? fdO.type = some iC ∧ (iC.size == 0) = false
 h4:kR P tC = some false ∧ P.info? tC = some iC ∧ P.underlying tC = some (.slice tE) ∧ P.info? tE = some iE
 h5:P.underlying tE = some (.struct fsE) ∧ fsE[fE]? = some fdE ∧ P.info? fdE.type = some iW ∧ (iW.size == 0) = false
 h6:P.info? tW = some iW ∧ iW.size = 1
structure aPo {P:Program} (T:aPq P) (tB tI c1 c2 c3 c4 c5 c6:Nat) (o1 o2 o3 o4 o5 o6:Oper):Prop where
 h1:J9 o1 (.fieldAddr T.tR (.tmp tB) T.fR) (some c1)
 h2:J9 o2 (.load T.tS (.tmp c1)) (some c2)
 h3:J9 o3 (.move (.tmp tI)) (some c3)
 h4:J9 o4 (.indexAddr T.tS (.tmp c2) (.tmp c3)) (some c4)
 h5:J9 o5 (.fieldAddr T.tO (.tmp c4) T.fO) (some c5)
 h6:J9 o6 (.load T.tC (.tmp c5)) (some c6)
 n32:c3 ≠ c2
section
variable {P:Program} {nt:Nat} {w0:bU} {w wV:World} {h0 h:Hp} {fr:Nat->V} {bl:Nat->Option aI} {a:Act} {hd:Nat->Value}
end
structure aT7 {P:Program} (T:aPq P) (L:W3) (o0 o1 o2 o3 o4 o5 o6 o7 o8 p1 p2 p3 p4 p5 p6 p7 p8 p9 p10 x1 x2 x3:Oper) (tI:TypeId) (yI:TypeId) (cW c1:Operand):Prop where
 h0:J9 o0 (.move (.tmp L.tK)) (some L.q0)
 h1:aPo T L.tB L.tI L.c1 L.c2 L.c3 L.c4 L.c5 L.c6 o1 o2 o3 o4 o5 o6
 h7:o7.guard = none ∧ o7.dst = some L.ln ∧ ∀ ρ:Operand->Value,execOp ρ o7 = (do pure (.value (← Builtin.len_ #[T.tC] o7.type #[ρ (.tmp L.c6)])))
 h8:J9 o8 (.binOp .lss tI (.tmp L.q0) (.tmp L.ln) yI) (some L.ls)
 g1:aPo T L.tB L.tI L.e1 L.e2 L.e3 L.e4 L.e5 L.e6 p1 p2 p3 p4 p5 p6
 g7:J9 p7 (.move (.tmp L.tK)) (some L.k2)
 g8:J9 p8 (.indexAddr T.tC (.tmp L.e6) (.tmp L.k2)) (some L.ix)
 g9:J9 p9 (.fieldAddr T.tE (.tmp L.ix) T.fE) (some L.fa)
 g10:J9 p10 (.store T.tW (.tmp L.fa) cW) none
 f1:J9 x1 (.move (.tmp L.tK)) (some L.u1)
 f2:J9 x2 (.binOp .add tI (.tmp L.u1) c1 yI) (some L.u2)
 f3:J9 x3 (.assign (.tmp L.u2)) (some L.tK)
 cW:∀ a:Act,a.eval cW = .bool false
 c1:∀ a:Act,a.eval c1 = .int .i64 1
section
variable {P:Program} {nt:Nat} {w0:bU} {h0 h:Hp} {bl0:Nat->Option aI} {hd:Nat->Value}
end
section
variable {P:Program}
end
end Vm
end Go.Proofs.Ytgjcnbgfaimepaa
namespace Go.Proofs.Ytgjcnbgfaimepaa
namespace Vm
open Go.RowKit
section
variable {β:Type} {T:vS} {fr:List (Nat × V)} {bl:List (Nat × Option aI)}
end
end Vm
end Go.Proofs.Ytgjcnbgfaimepaa
namespace Go.Proofs.Ytgjcnbgfaimepaa
namespace Vm
open Go.RowKit
section
variable {β:Type} {T:vS} {d:Nat} {fr:List (Nat × V)} {bl:List (Nat × Option aI)} {k:V->Option β} {kw:V->List (Nat × Option aI)->Option β}
end
end Vm
end Go.Proofs.Ytgjcnbgfaimepaa
