/- A map that is laid and ranged over, each entry written into a row of the call's own: in whatever order. The small machine, read from the front: a range over a map that is laid. A range over a map keyed by numbers, each round of which is code of the small machine: in whatever order. The small machine, read from the front: maps of bools keyed by numbers. The small machine, read from the front: maps of numbers keyed by numbers. The small machine, read from the front: pointers that may be nil, arrays of them. A slice is stored in a field of an element of a slice of one's own, and then one field of each of its elements is set through that field: the small machine sets the fields first, and stores then. Rules for the piece that sets a field of all elements of a slice that stands in a field of an element. 'slices.Sorted(maps.Keys(m))' as one piece: what it does to the state. -/
import Derived.Test.YtgjcnbgfaimepaaVmD
import Derived.Maps.RangeWalk
import Derived.WalkArith
import Derived.Test.YtgjcnbgfaimepaaVmF
import Derived.Laws.IdiomRangeMap
set_option linter.unusedVariables false
set_option linter.unusedSimpArgs false
namespace Go.Proofs.Ytgjcnbgfaimepaa
namespace Vm
open Go.RowKit Go.Maps
def aJl (dead:List Nat) (s:St):List (Nat × V):=dead.map (fun t=>(t,V.any)) ++ s.fr
def ZG (cell:V->Option (List D)) (s:St):List (Nat × Nat)->List (List D)->Option (List (List D))
 | [],rows=>some rows
 | (k,t) :: l,rows=>match cell (s.get t) with
  | some row=>if k < rows.length then ZG cell s l (rows.set k row) else none
  | none=>none
def aQg (out:Nat) (cell:V->Option (List D)) (ks:List (Nat × Nat)) (dead:List Nat) (s:St):Option St:=match s.get out with
 | .own id ver=>match s.blk id with
  | some (.rows v e size rows)=>if ver = v ∧ size = 2 then match ZG cell s ks rows with
    | some rows'=>some ⟨aJl dead s,(id,some (.rows v e size rows')) :: s.bl⟩
    | none=>none
   else none
  | _=>none
 | _=>none
section
variable {P:Program} {nt:Nat} {w0:b7} {w w' : World} {h0 h:Hp} {fr:Nat->V} {bl:Nat->Option aI} {a:Act} {hd:Nat->Value}
structure aHb (w0:b7) (h:Hp) (bl:Nat->Option aI) (hd:Nat->Value) (g:Nat):Prop where
 own:w0.own g
 out:h g = none
 off:∀ id b,bl id = some b->b.live = true->fL (hd id) ≠ some g
theorem aHb.new (r:Rl nt w0 h0 fr bl a w h hd) {g:Nat} (hg:w.heap.size <= g):aHb w0 h bl hd g where
 own:=.inl (Nat.le_trans r.below.size hg)
 out:=JB r.hle hg
 off:=fun id b hb hl q=>by have:=((r.blk id b hb).num hl q).2.1; omega
theorem NC (r:Rl nt w0 h0 fr bl a w h hd) {d:Nat} (hd' : d < nt) (cv:Value) (t:Nat):(a.put (some d) cv).tmps.getD t undef = if d = t then cv else a.tmps.getD t undef:=by
 rw [HW a (some d) cv t nt r.tmps fun x e=>by cases e; exact hd']
 simp only [Option.some.injEq]
theorem KI {ops:Array Oper} {Q:Exit->Act->World->Prop} {K:Act->World->Prop} {i:Nat} {o:Oper} (ho:ops[i]? = some o) (hg:o.guard = none) (h:o.wp P a w K Q):wpOp P ops Q i K a w:=by
 unfold wpOp
 rw [ho]
 simp only
 rw [if_pos (by simp [Region.wanted,hg])]
 exact .inl h
inductive aVb where
 | vm (so:aO)
 | ins (k t:Nat)
structure aQs where
 it:Nat
 nx:Nat
 ok:Nat
 en:Nat
 k1:Nat
 v1:Nat
 kk:Nat
 vv:Nat
 d1:Nat
 d2:Nat
 d3:Nat
 dc:Nat
 da:Nat
 out:Nat
def aQs.slots (L:aQs):List Nat:=[L.nx,L.ok,L.en,L.k1,L.v1,L.kk,L.vv,L.d1,L.d2,L.d3,L.dc,L.da]
theorem aMQ (r:Rl nt w0 h0 fr bl a w h hd) (hF:∀ t,w0.F t = none) {d:Nat} (hd' : d < nt) (cv:Value) (v:V) (hv:R3 h hd bl cv v) :
  ∃ a',a.put (some d) cv = a' ∧ Rl nt w0 h0 (eN fr (some d) v) bl a' w h hd ∧ a'.tmps.getD d undef = cv ∧ ∀ t,t ≠ d->a'.tmps.getD t undef = a.tmps.getD t undef :=
 ⟨_,rfl,r.put0 (some d) cv v (fun x e=>by cases e; exact ⟨hd',hF d⟩) hv,by rw [NC r hd',if_pos rfl],fun t ht=>by rw [NC r hd',if_neg (Ne.symm ht)]⟩
def aOp:Code->Code
 | .seq a _=>a
 | c=>c
def FE:Code->Code
 | .seq _ b=>b
 | c=>c
def MO:Code->Array Oper
 | .region _ ops _=>ops
 | _=>#[]
theorem aCd {P:Program} {e:TypeId} {z:Value} {s b:Nat} (h:(P.info? e).map (fun i=>(i.zero,i.size,i.bytes)) = some (some z,s,b)):∃ i,P.info? e = some i ∧ i.zero = some z ∧ i.size = s ∧ i.bytes = b:=by
 cases hi:P.info? e with
 | none=>rw [hi] at h; cases h
 | some i=>rw [hi] at h; simp only [Option.map_some,Option.some.injEq,Prod.mk.injEq] at h; exact ⟨i,rfl,h.1,h.2.1,h.2.2⟩
def aMn {α:Type} (Q:α->Prop):List α->Prop
 | []=>True
 | x :: l=>Q x ∧ aMn Q l
theorem aMn.all {α:Type} {Q:α->Prop}:∀ {l:List α},aMn Q l->∀ x ∈ l,Q x
 | [],_,x,h=>by simp at h
 | y :: l,q,x,h=>by
  rcases List.mem_cons.1 h with rfl | h
  ·exact q.1
  ·exact aMn.all q.2 x h
end
end Vm
end Go.Proofs.Ytgjcnbgfaimepaa
namespace Go.Proofs.Ytgjcnbgfaimepaa
namespace Vm
open Go.RowKit
section
variable {β:Type} {T:wE} {fr:List (Nat × V)} {bl:List (Nat × Option aI)}
def aBy (ver:Nat) (b:Option aI) (g:Nat->List (List D)->Option β):Option β:=match b with
 | some (.rows v e size rows)=>if ver = v ∧ size = 2 then g e rows else none
 | _=>none
theorem ZQ (v e:Nat) (rows:List (List D)) (g:Nat->List (List D)->Option β):aBy v (some (.rows v e 2 rows)) g = g e rows:=if_pos ⟨rfl,rfl⟩
def ZV (cell:V->Option (List D)) (fr:List (Nat × V)):List (Nat × Nat)->List (List D)->(List (List D)->Option β)->Option β
 | [],rows,g=>g rows
 | (k,t) :: l,rows,g=>iQ fr t fun v=>(cell v).bind fun row=>if k < rows.length then ZV cell fr l (rows.set k row) g else none
theorem aFB (cell:V->Option (List D)) (rows:List (List D)) (g:List (List D)->Option β):ZV cell fr [] rows g = g rows:=rfl
theorem YU (cell:V->Option (List D)) (b:List (Nat × Option aI)) (g:List (List D)->Option β):∀ (l:List (Nat × Nat)) (rows:List (List D)),ZV cell fr l rows g = (ZG cell ⟨fr,b⟩ l rows).bind g
 | [],rows=>rfl
 | (k,t) :: l,rows=>by
  simp only [ZV,ZG,iQ]
  rw [CR]
  cases cell (lk fr .any t) with
  | none=>rfl
  | some row =>
   simp only [Option.bind_some,YU cell b g l]
   split <;> rfl
def AU:List Nat->List (Nat × V)->List (Nat × V)
 | [],fr=>fr
 | t :: l,fr=>(t,.any) :: AU l fr
theorem TX:AU [] fr = fr:=rfl
theorem SV (t:Nat) (l:List Nat):AU (t :: l) fr = (t,.any) :: AU l fr:=rfl
theorem ZZ (b:List (Nat × Option aI)):∀ l:List Nat,aJl l ⟨fr,b⟩ = AU l fr
 | []=>rfl
 | t :: l=>by
  show (t,V.any) :: (aJl l ⟨fr,b⟩) = _
  rw [ZZ b l]
  rfl
theorem aLF (out:Nat) (cell:V->Option (List D)) (ks:List (Nat × Nat)) (dead:List Nat) (k:Ex->St->Option β):b6 T (.hand (aQg out cell ks dead)) ⟨fr,bl⟩ k = iQ fr out fun v=>V9 v fun id ver=>bG bl id fun b=>aBy ver b fun e rows=>ZV cell fr ks rows fun rows'=>k .normal ⟨AU dead fr,(id,some (.rows ver e 2 rows')) :: bl⟩:=by
 unfold b6
 rw [EQ]
 unfold aQg iQ
 rw [CR]
 cases lk fr .any out with
 | own id ver =>
  simp only [V9,bG,aBy]
  rw [CJ]
  cases lk bl none id with
  | none=>rfl
  | some b =>
   cases b with
   | rows v e size rows =>
    simp only
    split
    ·rename_i hc
     obtain ⟨rfl,rfl⟩:=hc
     rw [YU cell bl]
     cases ZG cell ⟨fr,bl⟩ ks rows with
     | none=>rfl
     | some rows'=>simp only [Option.map_some,Option.bind_some,ZZ]
    ·rfl
   | _=>rfl
 | _=>rfl
def aU7 (v:V) (g:Int->Option β):Option β:=match v with
 | .d (.int .i64 n)=>g n
 | _=>none
def aUh (v:V) (g:Bool->Option β):Option β:=match v with
 | .d (.bool b)=>g b
 | _=>none
theorem aRv (n:Int) (g:Int->Option β):aU7 (.d (.int .i64 n)) g = g n:=rfl
theorem aQU (b:Bool) (g:Bool->Option β):aUh (.d (.bool b)) g = g b:=rfl
end
end Vm
end Go.Proofs.Ytgjcnbgfaimepaa
namespace Go.Proofs.Ytgjcnbgfaimepaa
namespace Vm
open Go.RowKit Go.Maps
def b7.now (b:b7) (w:World) (rr it:Nat) (itv:Value):b7:={ w with L:=fun g=>b.own g ∧ g ≠ rr ∧ g < w.heap.size,F:=fun i=>if i = it then some itv else none,O:=b.O,M:=b.M }
section
variable {P:Program} {nt:Nat} {w0:b7} {w w' : World} {h0 h h' : Hp} {fr fr' : Nat->V} {bl bl' : Nat->Option aI} {a a' : Act} {hd hd' : Nat->Value} {rr it:Nat} {itv:Value}
theorem VK {b:b7} (hs:b.heap.size <= w.heap.size) {g:Nat} (h:(b.now w rr it itv).own g):b.own g:=by
 rcases h with h | h
 ·exact .inl (Nat.le_trans hs h)
 ·exact h.1
theorem aC4 {b:b7} (hlt:rr < w.heap.size):¬ (b.now w rr it itv).own rr:=by
 rintro (h | h)
 ·exact absurd h (Nat.not_le_of_lt hlt)
 ·exact h.2.1 rfl
theorem BR.rebase {b0 b1:b7} {id:Nat} {b:aI} (hown:b.live = true->∀ g,fL (hd id) = some g->b0.own g) (hO:b0.O = b1.O) (r:BR b1 w h hd bl id b):BR b0 w h hd bl id b:=by
 cases b with
 | box cs =>
  obtain ⟨g,arr,e,h1,h2,h3⟩:=r
  exact ⟨g,arr,e,h1,hown rfl g (by rw [h1]; rfl),h3⟩
 | rows ver e size rows =>
  obtain ⟨h1,h2,h3,h4⟩:=r
  exact ⟨h1,h2,h3,fun g hg=>⟨(h4 g hg).1,hown rfl g hg⟩⟩
 | froz ver rows=>exact r
 | fbox cs=>exact r
 | mp ek m =>
  obtain ⟨g,h1,h2,h3⟩:=r
  exact ⟨g,h1,hown rfl g (by rw [h1]; rfl),h3⟩
 | fmp ek m=>exact r
 | outer cs =>
  intro j x hx
  rw [hO]
  exact r j x hx
theorem Rl.now (r:Rl nt w0 h0 fr bl a w h hd) (hS:aHb w0 h bl hd rr) (hit:a.tmps.getD it undef = itv):Rl nt (w0.now w rr it itv) h fr bl a w h hd where
 tmps:=r.tmps
 defers:=r.defers
 fixed:=fun t v e=>by
  simp only [b7.now] at e
  split at e
  ·rename_i q; cases e; rw [q]; exact hit
  ·cases e
 below:=AC.refl _ _
 hle:=r.hle
 h0le:=Hp.le.refl _
 hbase:=fun _ _=>rfl
 frame:=r.frame
 blk:=fun id b hb=>BR.rebase (b1:=w0) (fun hl g hg=>by
  obtain ⟨q1,q2,_⟩:=(r.blk id b hb).num hl hg
  exact .inr ⟨q1,fun e=>hS.off id b hb hl (e ▸ hg),q2⟩) rfl (r.blk id b hb)
 sep:=r.sep
theorem Rl.back (hF:∀ t,w0.F t = none) (r:Rl nt w0 h0 fr bl a w h hd) (r' : Rl nt (w0.now w rr it itv) h fr' bl' a' w' h' hd'):Rl nt w0 h0 fr' bl' a' w' h' hd' where
 tmps:=r'.tmps
 defers:=r'.defers
 fixed:=fun t v e=>by rw [hF t] at e; cases e
 below:=r.below.trans ⟨r'.below.os,r'.below.tape,r'.below.output,r'.below.size,fun k hk=>r'.below.block k fun q=>hk (VK r.below.size q)⟩
 hle:=r'.hle
 h0le:=r.h0le.trans r'.h0le
 hbase:=fun b hb=>(r'.hbase b fun q=>hb (VK r.below.size q)).trans (r.hbase b hb)
 frame:=r'.frame
 blk:=fun id b hb=>BR.rebase (b1:=w0.now w rr it itv) (fun hl g hg=>VK r.below.size ((r'.blk id b hb).num hl hg).1) rfl (r'.blk id b hb)
 sep:=r'.sep
theorem aHb.back (hS:aHb w0 h bl hd rr) (hlt:rr < w.heap.size) (r' : Rl nt (w0.now w rr it itv) h fr' bl' a' w' h' hd'):aHb w0 h' bl' hd' rr ∧ w'.heap[rr]? = w.heap[rr]? :=
 ⟨⟨hS.own,(r'.hbase rr (aC4 hlt)).trans hS.out,fun id b hb hl q=>aC4 hlt ((r'.blk id b hb).num hl q).1⟩,r'.below.block rr (aC4 hlt)⟩
structure aEz where
 it:Nat
 nx:Nat
 ok:Nat
 en:Nat
 k1:Nat
 kk:Nat
def aEz.slots (L:aEz):List Nat:=[L.nx,L.ok,L.en,L.k1,L.kk]
structure aVi (L:aEz) (oN oX e0 e1 e2:Oper):Prop where
 hN:oN.guard = none ∧ oN.op = .next (.tmp L.it) false ∧ oN.dst = some L.nx
 hX:oX.guard = none ∧ oX.op = .extract (.tmp L.nx) 0 ∧ oX.dst = some L.ok
 h0:e0.guard = none ∧ e0.op = .entry (.tmp L.it) ∧ e0.dst = some L.en
 h1:e1.guard = none ∧ e1.op = .extract (.tmp L.en) 0 ∧ e1.dst = some L.k1
 h2:e2.guard = none ∧ (e2.op = .assign (.tmp L.k1) ∨ e2.op = .move (.tmp L.k1)) ∧ e2.dst = some L.kk
def UA (l:List (Int × ML)) (k:Int):Bool:=l.any fun p=>decide (p.1 = k)
structure aVf (ek0:Nat) (C:Nat->List D->Option D) (n m:Nat) (L:aEz) (sc:aG) (s s2:St):Prop where
 ex:∃ (ek:Nat) (l:List (Int × ML)) (Inv:(Int->Bool)->(Nat->V)->(Nat->Option aI)->Prop),(NA m s).get m = .d (.mp ek l) ∧ (ek = ek0 ∨ ek = 2) ∧
  (∀ left fr bl fr',Inv left fr bl->(∀ t,t ∉ L.it :: L.slots->fr' t = fr t)->Inv left fr' bl) ∧
  (∀ left (s:St) (k:Int),mS k->Inv left s.get s.blk->left k = true->s.get L.kk = .d (.int .i64 k)->∃ s',aP C n sc s = some (.normal,s') ∧ Inv (fun z=>left z && !decide (z = k)) s'.get s'.blk) ∧
  Inv (fun k=>UA l k) (NA m s).get (NA m s).blk ∧
  ∀ s' : St,Inv (fun _=>false) s'.get s'.blk->(∀ t,s2.get t = .any ∨ s2.get t = s'.get t) ∧ s2.blk = s'.blk
def V2 (l m:List (Int × ML)):List (Int × ML):=m.filter fun p=>!UA l p.1
def DF (dead:List Nat) (fr:List (Nat × V)):List (Nat × V):=dead.map (fun t=>(t,V.any)) ++ fr
def aEA (ek0 m inn:Nat) (dead:List Nat) (s:St):Option St:=match (NA m s).get m,(NA m s).get inn with
 | .d (.mp ek l),.mp id=>match (NA m s).blk id with
  | some (.mp ek' l2)=>if (ek = ek0 ∨ ek = 2) ∧ ek' = ek0 then some ⟨DF dead (NA m s).fr,(id,some (.mp ek' (V2 l l2))) :: (NA m s).bl⟩ else none
  | _=>none
 | .d (.mp ek l),.d (.mp 2 [])=>if ek = ek0 ∨ ek = 2 then some ⟨DF dead (NA m s).fr,(NA m s).bl⟩ else none
 | _,_=>none
def K8 (l:List (Int × ML)) (n:Nat):Bool:=l.all fun p=>decide (0 <= p.1) && decide (p.1.toNat < n)
def YA (l:List (Int × ML)) (rows:List (List D)):List (List D):=rows.mapIdx fun i row=>if UA l (i:Int) = true then [.bool true] else row
def aD4 (ek0 m out:Nat) (dead:List Nat) (s:St):Option St:=match (NA m s).get m,(NA m s).get out with
 | .d (.mp ek l),.own id ver=>match (NA m s).blk id with
  | some (.rows v e size rows)=>if (ek = ek0 ∨ ek = 2) ∧ ver = v ∧ size = 1 ∧ K8 l rows.length = true ∧ sized 1 rows = true then some ⟨DF dead (NA m s).fr,(id,some (.rows v e size (YA l rows))) :: (NA m s).bl⟩ else none
  | _=>none
 | _,_=>none
end
def aUj:Code->Code
 | .block _ c=>c
 | .loop c=>c
 | c=>c
section
variable {P:Program} {nt:Nat}
theorem bD.cond {co:Operand} {o:bM} {c d:Code} {x y:aG} (h0:gX co = some o) (h1:bD P nt c x) (h2:bD P nt d y):bD P nt (.cond co c d) (.cond o x y):=by
 intro C hC n w0 h0' s s' ex a w h hd Q hF he r hQ
 have hc:=aV r.frame h0
 simp only [aP] at he
 split at he
 ·rename_i hb
  rw [hb] at hc
  exact wp_cond_true (jR hc) (h1 C hC n w0 h0' s s' ex a w h hd Q hF he r hQ)
 ·rename_i hb
  rw [hb] at hc
  exact wp_cond_false (jR hc) (h2 C hC n w0 h0' s s' ex a w h hd Q hF he r hQ)
 ·cases he
theorem bD.block {id:Nat} {c:Code} {x:aG} (h1:bD P nt c x):bD P nt (.block id c) (.block id x):=by
 intro C hC n w0 h0 s s' ex a w h hd Q hF he r hQ
 refine wp_block ?_
 simp only [aP] at he
 split at he
 ·rename_i id'' s1 he1
  refine h1 C hC n w0 h0 s s1 (.exit id'') a w h hd _ hF he1 r fun a' w' h' hd' r'=>?_
  simp only [Ex.go,Exit.inBlock]
  split at he
  ·rename_i hid
   cases he
   rw [if_pos hid]
   exact hQ _ _ _ _ r'
  ·rename_i hid
   cases he
   rw [if_neg hid]
   exact hQ _ _ _ _ r'
 ·rename_i hne
  refine h1 C hC n w0 h0 s s' ex a w h hd _ hF he r fun a' w' h' hd' r'=>?_
  cases ex with
  | normal=>exact hQ _ _ _ _ r'
  | exit id=>exact absurd he (hne _ _)
  | ret=>exact hQ _ _ _ _ r'
theorem bD.loop {c:Code} {x:aG} (h1:bD P nt c x):bD P nt (.loop c) (.loop x):=by
 intro C hC n w0 h0 s s' ex a w h hd Q hF he r hQ
 simp only [aP] at he
 refine SF (fun k a w=>∃ s h hd,qT (aP C n x) k s = some (ex,s') ∧ Rl nt w0 h0 s.get s.blk a w h hd) (fun a w ⟨s,h,hd,q,_⟩=>by simp [qT] at q) ?_ n a w ⟨s,h,hd,he,r⟩
 rintro k a w ⟨s,h,hd,q,r⟩
 simp only [qT] at q
 split at q
 ·rename_i s1 he1
  exact h1 C hC n w0 h0 s s1 .normal a w h hd _ hF he1 r fun a' w' h' hd' r'=>⟨s1,h',hd',q,r'⟩
 ·rename_i hne
  refine h1 C hC n w0 h0 s s' ex a w h hd _ hF q r fun a' w' h' hd' r'=>?_
  cases ex with
  | normal=>exact absurd q (hne _)
  | exit id=>exact hQ _ _ _ _ r'
  | ret=>exact hQ _ _ _ _ r'
end
end Vm
end Go.Proofs.Ytgjcnbgfaimepaa
namespace Go.Proofs.Ytgjcnbgfaimepaa
namespace Vm
open Go.RowKit
abbrev MB:=List (Int × Bool)
def mB (m:MB):List (Int × ML):=m.map fun p=>(p.1,ML.b p.2)
def eB:Option MB->D
 | none=>.mp 2 []
 | some m=>.mp 1 (mB m)
def inM (m:MB) (k:Int):Bool:=m.any fun p=>decide (p.1 = k)
def aUC (k:Int) (z:Bool):Option MB->Bool
 | none=>z
 | some m=>zY k z m
def aRT (l m:MB):MB:=m.filter fun p=>!inM l p.1
def aUd (l:Option MB) (m:MB):MB:=match l with
 | none=>m
 | some l=>aRT l m
def aJW (l:MB) (n:Nat):Bool:=l.all fun p=>decide (0 <= p.1) && decide (p.1.toNat < n)
def aL9 (l:MB) (xs:List Bool):List Bool:=xs.mapIdx fun i b=>if inM l (i:Int) = true then true else b
theorem aIU (k:Int) (b:Bool):∀ m:MB,BQ k (ML.b b) (mB m) = mB (BQ k b m)
 | []=>rfl
 | y :: r=>by
  show (if k < y.1 then _ else _) = mB (if k < y.1 then _ else _)
  split
  ·rfl
  ·show (y.1,ML.b y.2) :: BQ k (.b b) (mB r) = (y.1,ML.b y.2) :: mB (BQ k b r)
   rw [aIU k b r]
theorem aJc (k:Int) (m:MB):CT k (mB m) = mB (CT k m):=by
 unfold CT mB
 rw [List.filter_map]
 rfl
theorem aRf (k:Int) (b:Bool) (m:MB):GQ k (ML.b b) (mB m) = mB (GQ k b m):=by
 unfold GQ
 rw [aJc,aIU]
theorem aJV (k:Int) (z:Bool) (m:MB):zY k (ML.b z) (mB m) = .b (zY k z m):=by
 unfold zY mB
 rw [List.find?_map]
 have e:(fun p:Int × ML=>decide (p.1 = k)) ∘ (fun p:Int × Bool=>(p.1,ML.b p.2)) = fun p:Int × Bool=>decide (p.1 = k):=rfl
 rw [e]
 cases m.find? fun p=>decide (p.1 = k) <;> rfl
theorem aQY (m:MB):(mB m).length = m.length:=List.length_map ..
theorem aQw (l:MB) (k:Int):UA (mB l) k = inM l k:=by
 unfold UA mB inM
 rw [List.any_map]
 rfl
theorem aQG (l m:MB):V2 (mB l) (mB m) = mB (aRT l m):=by
 unfold V2 aRT
 simp only [aQw]
 show (m.map _).filter _ = _
 rw [List.filter_map]
 rfl
theorem aOt (m:MB):V2 [] (mB m) = mB m:=by
 unfold V2 UA
 simp
theorem aPU (l:MB) (n:Nat):K8 (mB l) n = aJW l n:=by
 unfold K8 mB aJW
 rw [List.all_map]
 rfl
theorem aQR (l:MB) (xs:List Bool):YA (mB l) (cM cB xs) = cM cB (aL9 l xs):=by
 unfold YA aL9 cM
 apply List.ext_getElem?
 intro i
 simp only [List.getElem?_mapIdx,List.getElem?_map,aQw]
 cases xs[i]? with
 | none=>rfl
 | some b =>
  simp only [Option.map_some]
  cases inM l (i:Int) <;> rfl
theorem QT (m:MB):(mB m).isEmpty = true ∨ (1:Nat) = 1:=.inr rfl
section
variable {β:Type} {T:wE} {d:Nat} {fr:List (Nat × V)} {bl:List (Nat × Option aI)} {k:V->Option β} {kw:V->List (Nat × Option aI)->Option β}
theorem aG0 (ek:Nat):rN T d (.mkmap ek) fr bl k kw = bG bl d fun b=>gC b (kw (.mp d) [(d,some (.mp ek []))]):=by
 unfold rN bG
 simp only [cJ]
 cases lk bl none d <;> rfl
theorem aBA:rN T d (.mkmap 1) fr bl k kw = bG bl d fun b=>gC b (kw (.mp d) [(d,some (.mp 1 (mB [])))]):=aG0 1
def aIu (ek:Nat) (m a x:V) (bl:List (Nat × Option aI)) (k:V->Option β) (kw:V->List (Nat × Option aI)->Option β):Option β:=EE (match m,J2 a,aHf x with
  | .mp id,some n,some x=>match lk bl none id with
   | some (.mp ek' l)=>if x.kind = ek ∧ ek' = ek ∧ l.length < 1000000000000 then some (.any,[(id,some (.mp ek (GQ n x l)))]) else none
   | _=>none
  | _,_,_=>none) k kw
theorem aJX (ek:Nat) (m a x:bM):rN T d (.mput ek m a x) fr bl k kw = bV fr m fun mv=>bV fr a fun av=>bV fr x fun xv=>aIu ek mv av xv bl k kw:=by
 rw [jB]
 rfl
def W7 (n:Int) (b:Bool) (id:Nat) (y:Option aI) (kw:V->List (Nat × Option aI)->Option β):Option β:=match y with
 | some (.mp 1 l)=>if l.length < 1000000000000 then kw .any [(id,some (.mp 1 (GQ n (.b b) l)))] else none
 | _=>none
theorem aFT (id:Nat) (n:Int) (b:Bool):aIu 1 (.mp id) (.d (.int .i64 n)) (.d (.bool b)) bl k kw = if mS n then bG bl id fun y=>W7 n b id y kw else none:=by
 unfold aIu
 simp only [J2,aHf]
 by_cases h:mS n
 ·rw [if_pos h,if_pos h]
  unfold bG
  simp only
  cases lk bl none id with
  | none=>rfl
  | some y =>
   cases y with
   | mp ek l =>
    simp only [ML.kind,true_and]
    by_cases e:ek = 1
    ·subst e
     simp only [true_and,W7]
     split <;> rfl
    ·rw [if_neg (fun q=>e q.1)]
     match ek,e with
     | 0,_=>rfl
     | 1,e=>exact absurd rfl e
     | _ + 2,_=>rfl
   | _=>rfl
 ·rw [if_neg h,if_neg h]
  rfl
theorem aFv (n:Int) (b:Bool) (id:Nat) (m:MB):W7 n b id (some (.mp 1 (mB m))) kw = if m.length < 1000000000000 then kw .any [(id,some (.mp 1 (mB (GQ n b m))))] else none:=by
 unfold W7
 simp only [aQY,aRf]
def PA (z:ML) (m a:V) (bl:List (Nat × Option aI)) (k:V->Option β):Option β:=match S3 (lk bl none) m,J2 a with
 | some (ek,l),some n=>if l.isEmpty = true ∨ z.kind = ek then k (.d (zY n z l).d) else none
 | _,_=>none
theorem aJo (z:ML) (m a:bM):rN T d (.mget z m a) fr bl k kw = bV fr m fun mv=>bV fr a fun av=>PA z mv av bl k:=by
 unfold rN bV PA
 simp only [cJ]
 cases S3 (lk bl none) (bL (lk fr .any) m) with
 | none=>rfl
 | some p =>
  cases J2 (bL (lk fr .any) a) with
  | none=>rfl
  | some n =>
   obtain ⟨ek,l⟩:=p
   simp only
   by_cases h:l.isEmpty = true ∨ z.kind = ek
   ·rw [if_pos h,if_pos h]
   ·rw [if_neg h,if_neg h]
def aBU (z:Bool) (n:Int) (y:Option aI) (k:V->Option β):Option β:=match y with
 | some (.mp ek l)=>if l.isEmpty = true ∨ 1 = ek then k (.d (zY n (.b z) l).d) else none
 | some (.fmp ek l)=>if l.isEmpty = true ∨ 1 = ek then k (.d (zY n (.b z) l).d) else none
 | _=>none
theorem aFD (z:Bool) (id:Nat) (n:Int):PA (.b z) (.mp id) (.d (.int .i64 n)) bl k = if mS n then bG bl id fun y=>aBU z n y k else none:=by
 unfold PA
 simp only [J2,S3]
 by_cases h:mS n
 ·rw [if_pos h,if_pos h]
  unfold bG
  cases lk bl none id with
  | none=>rfl
  | some y=>cases y <;> rfl
 ·rw [if_neg h,if_neg h]
  cases lk bl none id with
  | none=>rfl
  | some y=>cases y <;> rfl
theorem T9 (z:Bool) (n:Int) (m:MB):aBU z n (some (.mp 1 (mB m))) k = k (.d (.bool (zY n z m))):=by
 show (if (mB m).isEmpty = true ∨ (1:Nat) = 1 then k (.d (zY n (.b z) (mB m)).d) else none) = _
 rw [if_pos (QT m),aJV]
 rfl
theorem aC9 (z:Bool) (n:Int) (m:MB):aBU z n (some (.fmp 1 (mB m))) k = k (.d (.bool (zY n z m))):=T9 z n m
theorem aDZ (z:Bool) (n:Int) (m:MB):PA (.b z) (.d (.mp 1 (mB m))) (.d (.int .i64 n)) bl k = if mS n then k (.d (.bool (zY n z m))) else none:=by
 unfold PA
 simp only [J2,S3]
 by_cases h:mS n
 ·rw [if_pos h,if_pos h]
  show (if (mB m).isEmpty = true ∨ (1:Nat) = 1 then k (.d (zY n (.b z) (mB m)).d) else none) = _
  rw [if_pos (QT m),aJV]
  rfl
 ·rw [if_neg h,if_neg h]
theorem aNN (z:Bool) (n:Int) (x:Option MB):PA (.b z) (.d (eB x)) (.d (.int .i64 n)) bl k = if mS n then k (.d (.bool (aUC n z x))) else none:=by
 cases x with
 | none =>
  unfold PA
  simp only [J2,S3,eB]
  by_cases h:mS n
  ·rw [if_pos h,if_pos h]; rfl
  ·rw [if_neg h,if_neg h]
 | some m=>exact aDZ z n m
def aKD (ek:Nat) (m a:V) (bl:List (Nat × Option aI)) (k:V->Option β) (kw:V->List (Nat × Option aI)->Option β):Option β:=EE (match m,J2 a with
  | .d (.mp 2 []),some _=>some (.any,[])
  | .mp id,some n=>match lk bl none id with
   | some (.mp ek' l)=>if ek' = ek then some (.any,[(id,some (.mp ek (CT n l)))]) else none
   | _=>none
  | _,_=>none) k kw
theorem aIB (ek:Nat) (m a:bM):rN T d (.mdel ek m a) fr bl k kw = bV fr m fun mv=>bV fr a fun av=>aKD ek mv av bl k kw:=by
 rw [jB]
 rfl
def W8 (n:Int) (id:Nat) (y:Option aI) (kw:V->List (Nat × Option aI)->Option β):Option β:=match y with
 | some (.mp ek l)=>if ek = 1 then kw .any [(id,some (.mp 1 (CT n l)))] else none
 | _=>none
theorem aEN (id:Nat) (n:Int):aKD 1 (.mp id) (.d (.int .i64 n)) bl k kw = if mS n then bG bl id fun y=>W8 n id y kw else none:=by
 unfold aKD
 simp only [J2]
 by_cases h:mS n
 ·rw [if_pos h,if_pos h]
  unfold bG
  simp only
  cases lk bl none id with
  | none=>rfl
  | some y =>
   cases y with
   | mp ek l =>
    simp only [W8]
    split <;> rfl
   | _=>rfl
 ·rw [if_neg h,if_neg h]
  rfl
theorem aHA (n:Int) (id:Nat) (m:MB):W8 n id (some (.mp 1 (mB m))) kw = kw .any [(id,some (.mp 1 (mB (CT n m))))]:=by
 unfold W8
 simp only [if_true,aJc]
theorem aF2 (i:Nat) (k:List V->Option β):uX (.mp i) k = k [.mp i]:=rfl
def d1M (id:Nat) (b:Option aI) (k:D->List (Nat × Option aI)->Option β):Option β:=match b with
 | some (.mp ek m)=>k (.mp ek m) [(id,some (.fmp ek m))]
 | some (.fmp ek m)=>k (.mp ek m) []
 | _=>none
theorem aRA (id ek:Nat) (m:List (Int × ML)) (k:D->List (Nat × Option aI)->Option β):d1M id (some (.mp ek m)) k = k (.mp ek m) [(id,some (.fmp ek m))]:=rfl
theorem aMr (id ek:Nat) (m:List (Int × ML)) (k:D->List (Nat × Option aI)->Option β):d1M id (some (.fmp ek m)) k = k (.mp ek m) []:=rfl
theorem aRp (id:Nat) (k:D->List (Nat × Option aI)->Option β):QR (.mp id) bl k = bG bl id fun b=>d1M id b k:=by
 unfold QR bG d1M
 simp only [iX,AL,rF,I2]
 generalize lk bl none id = b
 cases b with
 | none=>rfl
 | some b=>cases b <;> rfl
theorem aNT (id:Nat) (k:D->List (Nat × Option aI)->Option β):BD (.mp id) bl k = QR (.mp id) bl k:=rfl
theorem aLR (id:Nat) (cs:List V) (kk:List D->List (Nat × Option aI)->Option β):wR bl (.mp id :: cs) kk = QR (.mp id) bl fun x g=>wR bl cs fun ds f=>kk (x :: ds) (g ++ f):=by
 rw [M0]
 unfold QR
 simp only [aK,List.flatMap_cons,M0]
 cases iX (lk bl none) (.mp id) with
 | none=>rfl
 | some x =>
  cases aK (iX (lk bl none)) cs <;> rfl
theorem aM9 (id:Nat) (k:List D->List (Nat × Option aI)->Option β):MK (.mp id) bl k = QR (.mp id) bl fun x f=>k [x] f:=by
 unfold MK QR
 show (match aK (iX (lk bl none)) [.mp id] with | some row=>k row (AL (lk bl none) (.mp id)) | none=>none) = _
 simp only [aK]
 cases iX (lk bl none) (.mp id) <;> rfl
def oW:List V->Option β->Option β
 | [],y=>y
 | v :: l,y=>if v.noTup = true then oW l y else none
theorem U0 (y:Option β):∀ l:List V,oW l y = if l.all V.noTup = true then y else none
 | []=>rfl
 | v :: l=>by
  by_cases h:v.noTup = true
  ·simp [oW,h,U0 y l]
  ·simp [oW,h]
theorem aMJ (dst:Option Nat) (slots:List Nat) (cs:List V) (v u:V) (l:List V) (k:List (Nat × V)->Option β):UI dst slots cs (v :: u :: l) k = oW (v :: u :: l) (k (OI dst (.tup (v :: u :: l)) ++ slots.zip cs)):=by
 rw [R6,U0]
theorem aCz (y:Option β):oW [] y = y:=rfl
theorem aKc (x:D) (l:List V) (y:Option β):oW (.d x :: l) y = oW l y:=rfl
theorem aGS (i:Nat) (l:List V) (y:Option β):oW (.mp i :: l) y = oW l y:=rfl
theorem aBD (i v:Nat) (l:List V) (y:Option β):oW (.own i v :: l) y = oW l y:=rfl
theorem aCf (i v:Nat) (l:List V) (y:Option β):oW (.ptr i v :: l) y = oW l y:=rfl
theorem aL0 (l:List V) (y:Option β):oW (.nil :: l) y = oW l y:=rfl
theorem aBu (cs l:List V) (y:Option β):oW (.agg cs :: l) y = oW l y:=rfl
theorem aAh (ds:List D) (l:List V) (y:Option β):oW (kY ds :: l) y = oW l y:=rfl
def aMX (id:Nat) (b:Option aI) (k:V->List (Nat × Option aI)->Option β) (y:Option β):Option β:=match b with
 | some (.mp ek m)=>k (.d (.mp ek m)) [(id,some (.fmp ek m))]
 | some (.fmp ek m)=>k (.d (.mp ek m)) []
 | _=>y
theorem aOG (id:Nat) (k:V->List (Nat × Option aI)->Option β) (y:Option β):JV (.mp id) bl k y = bG bl id fun b=>aMX id b k y:=by
 unfold JV bG aMX
 simp only [rF,I2]
 generalize lk bl none id = b
 cases b with
 | none=>rfl
 | some b=>cases b <;> rfl
theorem aPt (id ek:Nat) (m:List (Int × ML)) (k:V->List (Nat × Option aI)->Option β) (y:Option β):aMX id (some (.mp ek m)) k y = k (.d (.mp ek m)) [(id,some (.fmp ek m))]:=rfl
theorem aH7 (id ek:Nat) (m:List (Int × ML)) (k:V->List (Nat × Option aI)->Option β) (y:Option β):aMX id (some (.fmp ek m)) k y = k (.d (.mp ek m)) []:=rfl
section
variable (keep:List Nat)
def R8 (id:Nat) (b:Option aI) (k:V->Option β):Option β:=match b with
 | some (.mp _ _)=>fP keep id (k (.mp id)) (k .any)
 | some (.fmp ek m)=>k (.d (.mp ek m))
 | _=>k .any
theorem aK8 (id:Nat):pI keep bl (.mp id) k = bG bl id fun b=>R8 keep id b k:=by
 unfold pI bG R8 fP
 simp only [F3,PL,sR]
 generalize lk bl none id = b
 cases b with
 | none=>rfl
 | some b=>cases b <;> first | rfl | (simp only; cases h:keep.contains id <;> simp)
theorem aGn (id ek:Nat) (m:List (Int × ML)):R8 keep id (some (.mp ek m)) k = fP keep id (k (.mp id)) (k .any):=rfl
theorem aBp (id ek:Nat) (m:List (Int × ML)):R8 keep id (some (.fmp ek m)) k = k (.d (.mp ek m)):=rfl
theorem Z9 (id:Nat):R8 keep id none k = k .any:=rfl
theorem aFy (id:Nat) (cs:List V) (k:List V->Option β):rD keep bl (.mp id :: cs) k = pI keep bl (.mp id) fun v=>rD keep bl cs fun l=>k (v :: l):=by simp only [sP]; rfl
theorem aHj (ek:Nat) (m:List (Int × ML)) (k:Option aI->Option β):xN keep bl (some (.mp ek m)) k = k (some (.mp ek m)):=rfl
theorem aBF (ek:Nat) (m:List (Int × ML)) (k:Option aI->Option β):xN keep bl (some (.fmp ek m)) k = k none:=rfl
end
theorem aQd (i:Nat) (k:List Nat->Option β):IL (.mp i) k = k [i]:=rfl
theorem aIb (i:Nat) (k:List Nat->Option β):yG bl (.mp i) k = k [i]:=rfl
theorem aHI (i:Nat) (cs:List V) (k:List Nat->Option β):rU bl (.mp i :: cs) k = rU bl cs fun l=>k (i :: l):=by simp only [vQ]; rfl
theorem aFh (i:Nat) (cs:List V) (k:List Nat->Option β):sE (.mp i :: cs) k = sE cs fun l=>k (i :: l):=by simp only [vT]; rfl
theorem UY {m:Nat} {g:V->List (Nat × V)->List (Nat × Option aI)->Option St} {f:St->Option St} (hf:∀ s:St,f s = match (NA m s).get m with
  | .d x=>g (.d x) (NA m s).fr (NA m s).bl
  | _=>none) (k:Ex->St->Option β):b6 T (.hand f) ⟨fr,bl⟩ k = iQ fr m fun v=>JV v bl (fun v' wr=>match g v' ((m,v') :: fr) (wr ++ bl) with
  | some s=>k .normal s
  | none=>none) none:=by
 unfold b6
 have hfr:NA m ⟨fr,bl⟩ = (match rF (lk bl none) (lk fr .any m) with
  | some d=>⟨(m,.d d) :: fr,I2 (lk bl none) (lk fr .any m) ++ bl⟩
  | none=>⟨fr,bl⟩ : St):=rfl
 rw [EQ,hf,hfr]
 unfold iQ JV
 have e:(⟨fr,bl⟩ : St).get m = lk fr .any m:=rfl
 generalize lk fr .any m = v at e
 cases h:rF (lk bl none) v with
 | none =>
  simp only
  rw [e]
  cases v with
  | d x=>cases h
  | _=>simp only [h]; rfl
 | some x =>
  simp only
  have e:(⟨(m,V.d x) :: fr,I2 (lk bl none) v ++ bl⟩ : St).get m = .d x:=by simp [St.get,lk]
  rw [e]
  simp only [h]
  cases g (.d x) ((m,.d x) :: fr) (I2 (lk bl none) v ++ bl) <;> rfl
def F9 (ek0:Nat) (v u:V) (bl:List (Nat × Option aI)) (kk:List (Nat × Option aI)->Option β):Option β:=match v,u with
 | .d (.mp ek l),.mp id=>match lk bl none id with
  | some (.mp ek' l2)=>if (ek = ek0 ∨ ek = 2) ∧ ek' = ek0 then kk [(id,some (.mp ek' (V2 l l2)))] else none
  | _=>none
 | .d (.mp ek l),.d (.mp 2 [])=>if ek = ek0 ∨ ek = 2 then kk [] else none
 | _,_=>none
theorem JG (dead:List Nat) (fr:List (Nat × V)):DF dead fr = AU dead fr:=by
 induction dead with
 | nil=>rfl
 | cons t l ih =>
  show (t,V.any) :: DF l fr = (t,V.any) :: AU l fr
  rw [ih]
theorem ZH (ek0 m inn:Nat) (dead:List Nat) (k:Ex->St->Option β):b6 T (.hand (aEA ek0 m inn dead)) ⟨fr,bl⟩ k = iQ fr m fun v=>JV v bl (fun v' wr=>iQ ((m,v') :: fr) inn fun u=>F9 ek0 v' u (wr ++ bl) fun w2=>k .normal ⟨AU dead ((m,v') :: fr),w2 ++ (wr ++ bl)⟩) none:=by
 rw [UY (g:=fun v fr bl=>F9 ek0 v (lk fr .any inn) bl fun w2=>some ⟨AU dead fr,w2 ++ bl⟩) (fun s=>?_) k]
 ·unfold iQ
  refine congrArg (fun q=>JV (lk fr .any m) bl q none) ?_
  funext v' wr
  generalize lk ((m,v') :: fr) .any inn = u
  unfold F9
  cases v' with
  | d x =>
   cases x with
   | mp ek l =>
    cases u with
    | mp id =>
     simp only
     cases lk (wr ++ bl) none id with
     | none=>rfl
     | some y =>
      cases y with
      | mp ek' l2=>by_cases hc:(ek = ek0 ∨ ek = 2) ∧ ek' = ek0 <;> first | (simp only [if_pos hc]; done) | (simp only [if_neg hc]; done)
      | _=>rfl
    | d y =>
     cases y with
     | mp e2 l2 =>
      match e2,l2 with
      | 2,[]=>by_cases hc:ek = ek0 ∨ ek = 2 <;> first | (simp only [if_pos hc]; done) | (simp only [if_neg hc]; done)
      | 2,_ :: _=>rfl
      | 0,_=>rfl
      | 1,_=>rfl
      | _ + 3,_=>rfl
     | _=>rfl
    | _=>rfl
   | _=>rfl
  | _=>rfl
 ·unfold aEA F9
  generalize NA m s = s1
  have e1:s1.get inn = lk s1.fr .any inn:=rfl
  rw [e1]
  cases s1.get m with
  | d x =>
   cases x with
   | mp ek l =>
    cases lk s1.fr .any inn with
    | mp id =>
     simp only
     have e2:s1.blk id = lk s1.bl none id:=rfl
     rw [e2]
     cases lk s1.bl none id with
     | none=>rfl
     | some y =>
      cases y with
      | mp ek' l2=>simp only [JG]; rfl
      | _=>rfl
    | d y =>
     cases y with
     | mp e2 l2 =>
      match e2,l2 with
      | 2,[]=>simp only [JG]; rfl
      | 2,_ :: _=>rfl
      | 0,_=>rfl
      | 1,_=>rfl
      | _ + 3,_=>rfl
     | _=>rfl
    | _=>rfl
   | _=>cases lk s1.fr .any inn <;> rfl
  | _=>cases lk s1.fr .any inn <;> rfl
def aDN (l:List (Int × ML)) (id:Nat) (y:Option aI) (kk:List (Nat × Option aI)->Option β):Option β:=match y with
 | some (.mp ek' l2)=>if ek' = 1 then kk [(id,some (.mp 1 (V2 l l2)))] else none
 | _=>none
theorem Z6 {ek:Nat} (h:ek = 1 ∨ ek = 2) (l:List (Int × ML)) (id:Nat) (kk:List (Nat × Option aI)->Option β):F9 1 (.d (.mp ek l)) (.mp id) bl kk = bG bl id fun y=>aDN l id y kk:=by
 unfold F9 bG aDN
 simp only
 cases lk bl none id with
 | none=>rfl
 | some y =>
  cases y with
  | mp ek' l2 =>
   simp only
   by_cases e:ek' = 1
   ·subst e
    rw [if_pos ⟨h,rfl⟩,if_pos rfl]
   ·rw [if_neg (fun q=>e q.2),if_neg e]
  | _=>rfl
def aDE (x:Option MB) (id:Nat) (y:Option aI) (kk:List (Nat × Option aI)->Option β):Option β:=match x with
 | none=>aDN [] id y kk
 | some l=>aDN (mB l) id y kk
theorem aEw (l:MB) (id:Nat) (kk:List (Nat × Option aI)->Option β):F9 1 (.d (.mp 1 (mB l))) (.mp id) bl kk = bG bl id fun y=>aDE (some l) id y kk:=Z6 (.inl rfl) (mB l) id kk
theorem aD6 (id:Nat) (kk:List (Nat × Option aI)->Option β):F9 1 (.d (.mp 2 [])) (.mp id) bl kk = bG bl id fun y=>aDE none id y kk:=Z6 (.inr rfl) [] id kk
theorem aPk (x:Option MB) (id:Nat) (kk:List (Nat × Option aI)->Option β):F9 1 (.d (eB x)) (.mp id) bl kk = bG bl id fun y=>aDE x id y kk:=by
 cases x with
 | none=>exact aD6 id kk
 | some l=>exact aEw l id kk
theorem aL6 (l:MB) (kk:List (Nat × Option aI)->Option β):F9 1 (.d (.mp 1 (mB l))) (.d (.mp 2 [])) bl kk = kk []:=rfl
theorem aJd (kk:List (Nat × Option aI)->Option β):F9 1 (.d (.mp 2 [])) (.d (.mp 2 [])) bl kk = kk []:=rfl
theorem aKV (x:Option MB) (kk:List (Nat × Option aI)->Option β):F9 1 (.d (eB x)) (.d (.mp 2 [])) bl kk = kk []:=by cases x <;> rfl
theorem aMd (x:Option MB) (id:Nat) (m:MB) (kk:List (Nat × Option aI)->Option β):aDE x id (some (.mp 1 (mB m))) kk = kk [(id,some (.mp 1 (mB (aUd x m))))]:=by
 cases x with
 | none =>
  show (if (1:Nat) = 1 then kk [(id,some (.mp 1 (V2 [] (mB m))))] else none) = _
  rw [if_pos rfl,aOt]
  rfl
 | some l =>
  show (if (1:Nat) = 1 then kk [(id,some (.mp 1 (V2 (mB l) (mB m))))] else none) = _
  rw [if_pos rfl,aQG]
  rfl
def U8 (ek0:Nat) (v u:V) (bl:List (Nat × Option aI)) (kk:List (Nat × Option aI)->Option β):Option β:=match v,u with
 | .d (.mp ek l),.own id ver=>match lk bl none id with
  | some (.rows v e size rows)=>if (ek = ek0 ∨ ek = 2) ∧ ver = v ∧ size = 1 ∧ K8 l rows.length = true ∧ sized 1 rows = true then kk [(id,some (.rows v e size (YA l rows)))] else none
  | _=>none
 | _,_=>none
theorem ZN (ek0 m out:Nat) (dead:List Nat) (k:Ex->St->Option β):b6 T (.hand (aD4 ek0 m out dead)) ⟨fr,bl⟩ k = iQ fr m fun v=>JV v bl (fun v' wr=>iQ ((m,v') :: fr) out fun u=>U8 ek0 v' u (wr ++ bl) fun w2=>k .normal ⟨AU dead ((m,v') :: fr),w2 ++ (wr ++ bl)⟩) none:=by
 rw [UY (g:=fun v fr bl=>U8 ek0 v (lk fr .any out) bl fun w2=>some ⟨AU dead fr,w2 ++ bl⟩) (fun s=>?_) k]
 ·unfold iQ
  refine congrArg (fun q=>JV (lk fr .any m) bl q none) ?_
  funext v' wr
  generalize lk ((m,v') :: fr) .any out = u
  unfold U8
  cases v' with
  | d x =>
   cases x with
   | mp ek l =>
    cases u with
    | own id ver =>
     simp only
     cases lk (wr ++ bl) none id with
     | none=>rfl
     | some y =>
      cases y with
      | rows v e size rows=>by_cases hc:(ek = ek0 ∨ ek = 2) ∧ ver = v ∧ size = 1 ∧ K8 l rows.length = true ∧ sized 1 rows = true <;> first | (simp only [if_pos hc]; done) | (simp only [if_neg hc]; done)
      | _=>rfl
    | _=>rfl
   | _=>rfl
  | _=>rfl
 ·unfold aD4 U8
  generalize NA m s = s1
  have e1:s1.get out = lk s1.fr .any out:=rfl
  rw [e1]
  cases s1.get m with
  | d x =>
   cases x with
   | mp ek l =>
    cases lk s1.fr .any out with
    | own id ver =>
     simp only
     have e2:s1.blk id = lk s1.bl none id:=rfl
     rw [e2]
     cases lk s1.bl none id with
     | none=>rfl
     | some y =>
      cases y with
      | rows v e size rows=>simp only [JG]; rfl
      | _=>rfl
    | _=>rfl
   | _=>cases lk s1.fr .any out <;> rfl
  | _=>cases lk s1.fr .any out <;> rfl
def W6 (l:List (Int × ML)) (id ver:Nat) (y:Option aI) (kk:List (Nat × Option aI)->Option β):Option β:=match y with
 | some (.rows v e size rows)=>if ver = v ∧ size = 1 ∧ K8 l rows.length = true ∧ sized 1 rows = true then kk [(id,some (.rows v e size (YA l rows)))] else none
 | _=>none
theorem aN0 (l:MB) (id ver:Nat) (kk:List (Nat × Option aI)->Option β):U8 1 (.d (.mp 1 (mB l))) (.own id ver) bl kk = bG bl id fun y=>W6 (mB l) id ver y kk:=by
 unfold U8 bG W6
 simp only
 cases lk bl none id with
 | none=>rfl
 | some y =>
  cases y with
  | rows v e size rows =>
   simp only
   by_cases h:ver = v ∧ size = 1 ∧ K8 (mB l) rows.length = true ∧ sized 1 rows = true
   ·rw [if_pos h,if_pos ⟨.inl trivial,h⟩]
   ·rw [if_neg h,if_neg fun q=>h q.2]
  | _=>rfl
theorem ZX (l:MB) (id v e:Nat) (xs:List Bool) (kk:List (Nat × Option aI)->Option β):W6 (mB l) id v (some (.rows v e 1 (cM cB xs))) kk = if aJW l xs.length = true then kk [(id,some (.rows v e 1 (cM cB (aL9 l xs))))] else none:=by
 unfold W6
 simp only [vS,aPU,aQR,Z1,true_and,and_true]
end
end Vm
end Go.Proofs.Ytgjcnbgfaimepaa
namespace Go.Proofs.Ytgjcnbgfaimepaa
namespace Vm
open Go.RowKit
abbrev MI:=List (Int × Int)
def mI (m:MI):List (Int × ML):=m.map fun p=>(p.1,ML.i p.2)
def eI:Option MI->D
 | none=>.mp 2 []
 | some m=>.mp 0 (mI m)
section
variable {β:Type} {T:wE} {d:Nat} {fr:List (Nat × V)} {bl:List (Nat × Option aI)} {k:V->Option β} {kw:V->List (Nat × Option aI)->Option β}
end
end Vm
end Go.Proofs.Ytgjcnbgfaimepaa
namespace Go.Proofs.Ytgjcnbgfaimepaa
namespace Vm
open Go.RowKit
section
variable {β α:Type} {T:wE} {d:Nat} {fr:List (Nat × V)} {bl:List (Nat × Option aI)} {k:V->Option β} {kw:V->List (Nat × Option aI)->Option β}
theorem aK2 (i:Nat) (l:List V):nO i ([] ++ l) = nO i l:=rfl
theorem aKN (i:Nat) (v:V) (l m:List V):nO i ((v :: l) ++ m) = nO i (v :: (l ++ m)):=rfl
end
end Vm
end Go.Proofs.Ytgjcnbgfaimepaa
namespace Go.Proofs.Ytgjcnbgfaimepaa
namespace Vm
open Go.RowKit
abbrev KX (o:Oper) (op:Op) (d:Option Nat):Prop:=o.guard = none ∧ o.op = op ∧ o.dst = d
section
variable {P:Program} {w:World}
end
section
variable {P:Program} {nt:Nat} {w0:b7} {w wV:World} {h0 h:Hp} {fr:Nat->V} {bl:Nat->Option aI} {a:Act} {hd:Nat->Value}
end
structure ZA where
 tB:Nat
 tI:Nat
 tK:Nat
 q0:Nat
 c1:Nat
 c2:Nat
 c3:Nat
 c4:Nat
 c5:Nat
 c6:Nat
 ln:Nat
 ls:Nat
 e1:Nat
 e2:Nat
 e3:Nat
 e4:Nat
 e5:Nat
 e6:Nat
 k2:Nat
 ix:Nat
 fa:Nat
 u1:Nat
 u2:Nat
def ZA.all (L:ZA):List Nat:=[L.tK,L.q0,L.c1,L.c2,L.c3,L.c4,L.c5,L.c6,L.ln,L.ls,L.e1,L.e2,L.e3,L.e4,L.e5,L.e6,L.k2,L.ix,L.fa,L.u1,L.u2]
structure ZA.Ok (L:ZA):Prop where
 a1:L.q0 ∉ [L.c1,L.c2,L.c3,L.c4,L.c5,L.c6]
 a2:L.q0 ≠ L.ln
 k1:L.tK ≠ L.ls
 k2:L.tK ≠ L.ln
 k3:L.tK ∉ [L.c1,L.c2,L.c3,L.c4,L.c5,L.c6]
 k4:L.tK ≠ L.q0
 k5:L.tK ∉ [L.e1,L.e2,L.e3,L.e4,L.e5,L.e6]
 k6:L.tK ≠ L.fa
 k7:L.tK ≠ L.ix
 k8:L.tK ≠ L.k2
 e6:L.e6 ≠ L.k2
structure aQh (P:Program) where
 tR:TypeId
 fR:Nat
 tS:TypeId
 tO:TypeId
 fO:Nat
 tC:TypeId
 tE:TypeId
 fE:Nat
 tW:TypeId
 fsR:Array Field
 fdR:Field
 fsO:Array Field
 fdO:Field
 fsE:Array Field
 fdE:Field
 iS:TypeInfo
 iO:TypeInfo
 iC:TypeInfo
 iE:TypeInfo
 iW:TypeInfo
 h1:P.underlying tR = some (.struct fsR) ∧ fsR[fR]? = some fdR ∧ P.info? fdR.type = some iS ∧ (iS.size == 0) = false
 h2:lN P tS = some false ∧ P.info? tS = some iS ∧ P.underlying tS = some (.slice tO) ∧ P.info? tO = some iO
 h3:P.underlying tO = some (.struct fsO) ∧ fsO[fO]? = some fdO ∧ P.info? fdO.type = some iC ∧ (iC.size == 0) = false
 h4:lN P tC = some false ∧ P.info? tC = some iC ∧ P.underlying tC = some (.slice tE) ∧ P.info? tE = some iE
 h5:P.underlying tE = some (.struct fsE) ∧ fsE[fE]? = some fdE ∧ P.info? fdE.type = some iW ∧ (iW.size == 0) = false
 h6:P.info? tW = some iW ∧ iW.size = 1
structure aQB {P:Program} (T:aQh P) (tB tI c1 c2 c3 c4 c5 c6:Nat) (o1 o2 o3 o4 o5 o6:Oper):Prop where
 h1:KX o1 (.fieldAddr T.tR (.tmp tB) T.fR) (some c1)
 h2:KX o2 (.load T.tS (.tmp c1)) (some c2)
 h3:KX o3 (.move (.tmp tI)) (some c3)
 h4:KX o4 (.indexAddr T.tS (.tmp c2) (.tmp c3)) (some c4)
 h5:KX o5 (.fieldAddr T.tO (.tmp c4) T.fO) (some c5)
 h6:KX o6 (.load T.tC (.tmp c5)) (some c6)
 n32:c3 ≠ c2
section
variable {P:Program} {nt:Nat} {w0:b7} {w wV:World} {h0 h:Hp} {fr:Nat->V} {bl:Nat->Option aI} {a:Act} {hd:Nat->Value}
end
structure aVe {P:Program} (T:aQh P) (L:ZA) (o0 o1 o2 o3 o4 o5 o6 o7 o8 p1 p2 p3 p4 p5 p6 p7 p8 p9 p10 x1 x2 x3:Oper) (tI:TypeId) (yI:TypeId) (cW c1:Operand):Prop where
 h0:KX o0 (.move (.tmp L.tK)) (some L.q0)
 h1:aQB T L.tB L.tI L.c1 L.c2 L.c3 L.c4 L.c5 L.c6 o1 o2 o3 o4 o5 o6
 h7:o7.guard = none ∧ o7.dst = some L.ln ∧ ∀ ρ:Operand->Value,execOp ρ o7 = (do pure (.value (← Builtin.len_ #[T.tC] o7.type #[ρ (.tmp L.c6)])))
 h8:KX o8 (.binOp .lss tI (.tmp L.q0) (.tmp L.ln) yI) (some L.ls)
 g1:aQB T L.tB L.tI L.e1 L.e2 L.e3 L.e4 L.e5 L.e6 p1 p2 p3 p4 p5 p6
 g7:KX p7 (.move (.tmp L.tK)) (some L.k2)
 g8:KX p8 (.indexAddr T.tC (.tmp L.e6) (.tmp L.k2)) (some L.ix)
 g9:KX p9 (.fieldAddr T.tE (.tmp L.ix) T.fE) (some L.fa)
 g10:KX p10 (.store T.tW (.tmp L.fa) cW) none
 f1:KX x1 (.move (.tmp L.tK)) (some L.u1)
 f2:KX x2 (.binOp .add tI (.tmp L.u1) c1 yI) (some L.u2)
 f3:KX x3 (.assign (.tmp L.u2)) (some L.tK)
 cW:∀ a:Act,a.eval cW = .bool false
 c1:∀ a:Act,a.eval c1 = .int .i64 1
section
variable {P:Program} {nt:Nat} {w0:b7} {h0 h:Hp} {bl0:Nat->Option aI} {hd:Nat->Value}
end
section
variable {P:Program}
end
end Vm
end Go.Proofs.Ytgjcnbgfaimepaa
namespace Go.Proofs.Ytgjcnbgfaimepaa
namespace Vm
open Go.RowKit
section
variable {β:Type} {T:wE} {fr:List (Nat × V)} {bl:List (Nat × Option aI)}
end
end Vm
end Go.Proofs.Ytgjcnbgfaimepaa
namespace Go.Proofs.Ytgjcnbgfaimepaa
namespace Vm
open Go.RowKit
section
variable {β:Type} {T:wE} {d:Nat} {fr:List (Nat × V)} {bl:List (Nat × Option aI)} {k:V->Option β} {kw:V->List (Nat × Option aI)->Option β}
end
end Vm
end Go.Proofs.Ytgjcnbgfaimepaa
