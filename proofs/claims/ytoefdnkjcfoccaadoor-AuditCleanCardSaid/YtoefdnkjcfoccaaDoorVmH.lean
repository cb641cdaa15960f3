/- The small machine. -/
import Derived.Test.YtoefdnkjcfoccaaDoorVmD
import Derived.Maps.RangeWalk
import Derived.WalkArith
import Derived.Test.YtoefdnkjcfoccaaDoorVmF
import Derived.Laws.IdiomRangeMap
namespace Go.Proofs.YtoefdnkjcfoccaaDoor
section
namespace Vm
open Go.RowKit Go.Maps
def aMs (dead:List Nat) (s:St):List (Nat × V):=dead.map (fun t=>(t,V.any)) ++ s.fr
def aA4 (cell:V->Option (List D)) (s:St):List (Nat × Nat)->List (List D)->Option (List (List D))
 | [],rows=>some rows
 | (k,t) :: l,rows=>match cell (s.get t) with
  | some row=>if k < rows.length then aA4 cell s l (rows.set k row) else none
  | none=>none
def aQ9 (out:Nat) (cell:V->Option (List D)) (ks:List (Nat × Nat)) (dead:List Nat) (s:St):Option St:=match s.get out with
 | .own id ver=>match s.blk id with
  | some (.rows v e size rows)=>if ver = v ∧ size = 2 then match aA4 cell s ks rows with
    | some rows'=>some ⟨aMs dead s,(id,some (.rows v e size rows')) :: s.bl⟩
    | none=>none
   else none
  | _=>none
 | _=>none
section
variable {P:Program} {nt:Nat} {w0:cF} {w w' : World} {h0 h:Hp} {fr:Nat->V} {bl:Nat->Option aO} {a:Act} {hd:Nat->Value}
structure aFr (w0:cF) (h:Hp) (bl:Nat->Option aO) (hd:Nat->Value) (g:Nat):Prop where
 own:w0.own g
 out:h g = none
 off:∀ id b,bl id = some b->b.live = true->e9 (hd id) ≠ some g
theorem aFr.new (r:Rl nt w0 h0 fr bl a w h hd) {g:Nat} (hg:w.heap.size <= g):aFr w0 h bl hd g where
 own:=.inl (ó r.below.size hg)
 out:=JE r.hle hg
 off:=fun id b hb hl q=>by have:=((r.blk id b hb).num hl q).2.1; omega
inductive aWa where
 | vm (so:aY)
 | ins (k t:Nat)
structure aQ4 where
 it:Nat
 nx:Nat
 ok:Nat
 en:Nat
 k1:Nat
 v1:Nat
 kk:Nat
 vv:Nat
 d1:Nat
 d2:Nat
 d3:Nat
 dc:Nat
 da:Nat
 out:Nat
def aQ4.slots (L:aQ4):List Nat:=[L.nx,L.ok,L.en,L.k1,L.v1,L.kk,L.vv,L.d1,L.d2,L.d3,L.dc,L.da]
theorem MY {P:Program} {e:TypeId} {z:Value} {s b:Nat} (h:(P.info? e).map (fun i=>(i.zero,i.size,i.bytes)) = some (some z,s,b)):∃ i,P.info? e = some i ∧ i.zero = some z ∧ i.size = s ∧ i.bytes = b:=by
 cases hi:P.info? e with
 | none=>rw [hi] at h; cases h
 | some i=>rw [hi] at h; simp only [Ù,Ä,ú] at h; exact ⟨i,rfl,h.1,h.2.1,h.2.2⟩
def aOX {α:Type} (Q:α->Prop):List α->Prop
 | []=>True
 | x :: l=>Q x ∧ aOX Q l
theorem aOX.all {α:Type} {Q:α->Prop}:∀ {l:List α},aOX Q l->∀ x ∈ l,Q x
 | [],_,x,h=>by simp at h
 | y :: l,q,x,h=>by
  rcases Û.1 h with rfl | h
  ·exact q.1
  ·exact aOX.all q.2 x h
end
end Vm
end
section
namespace Vm
open Go.RowKit
section
variable {β:Type} {T:wF} {fr:List (Nat × V)} {bl:List (Nat × Option aO)}
def aCl (ver:Nat) (b:Option aO) (g:Nat->List (List D)->Option β):Option β:=match b with
 | some (.rows v e size rows)=>if ver = v ∧ size = 2 then g e rows else none
 | _=>none
theorem aBz (v e:Nat) (rows:List (List D)) (g:Nat->List (List D)->Option β):aCl v (some (.rows v e 2 rows)) g = g e rows:=Â ⟨rfl,rfl⟩
def ZX (cell:V->Option (List D)) (fr:List (Nat × V)):List (Nat × Nat)->List (List D)->(List (List D)->Option β)->Option β
 | [],rows,g=>g rows
 | (k,t) :: l,rows,g=>kW fr t fun v=>(cell v).bind fun row=>if k < rows.length then ZX cell fr l (rows.set k row) g else none
theorem aHb (cell:V->Option (List D)) (rows:List (List D)) (g:List (List D)->Option β):ZX cell fr [] rows g = g rows:=rfl
theorem aAr (cell:V->Option (List D)) (b:List (Nat × Option aO)) (g:List (List D)->Option β):∀ (l:List (Nat × Nat)) (rows:List (List D)),ZX cell fr l rows g = (aA4 cell ⟨fr,b⟩ l rows).bind g
 | [],rows=>rfl
 | (k,t) :: l,rows=>by
  simp only [ZX,aA4,kW]
  rw [FB]
  cases cell (lk fr .any t) with
  | none=>rfl
  | some row =>
   simp only [À,aAr cell b g l]
   split <;> rfl
def HX:List Nat->List (Nat × V)->List (Nat × V)
 | [],fr=>fr
 | t :: l,fr=>(t,.any) :: HX l fr
theorem aHq:HX [] fr = fr:=rfl
theorem aCL (t:Nat) (l:List Nat):HX (t :: l) fr = (t,.any) :: HX l fr:=rfl
theorem aBg (b:List (Nat × Option aO)):∀ l:List Nat,aMs l ⟨fr,b⟩ = HX l fr
 | []=>rfl
 | t :: l=>by
  show (t,V.any) :: (aMs l ⟨fr,b⟩) = _
  rw [aBg b l]
  rfl
theorem aMK (out:Nat) (cell:V->Option (List D)) (ks:List (Nat × Nat)) (dead:List Nat) (k:Ex->St->Option β):bM T (.hand (aQ9 out cell ks dead)) ⟨fr,bl⟩ k = kW fr out fun v=>XP v fun id ver=>bL bl id fun b=>aCl ver b fun e rows=>ZX cell fr ks rows fun rows'=>k .normal ⟨HX dead fr,(id,some (.rows ver e 2 rows')) :: bl⟩:=by
 unfold bM
 rw [aEV]
 unfold aQ9 kW
 rw [FB]
 cases lk fr .any out with
 | own id ver =>
  simp only [XP,bL,aCl]
  rw [E4]
  cases lk bl none id with
  | none=>rfl
  | some b =>
   cases b with
   | rows v e size rows =>
    simp only
    split
    ·rename_i hc
     obtain ⟨rfl,rfl⟩:=hc
     rw [aAr cell bl]
     cases aA4 cell ⟨fr,bl⟩ ks rows with
     | none=>rfl
     | some rows'=>simp only [Ù,À,aBg]
    ·rfl
   | _=>rfl
 | _=>rfl
def aVF (v:V) (g:Int->Option β):Option β:=match v with
 | .d (.int .i64 n)=>g n
 | _=>none
def aVt (v:V) (g:Bool->Option β):Option β:=match v with
 | .d (.bool b)=>g b
 | _=>none
theorem aRE (n:Int) (g:Int->Option β):aVF (.d (.int .i64 n)) g = g n:=rfl
theorem aRx (b:Bool) (g:Bool->Option β):aVt (.d (.bool b)) g = g b:=rfl
end
end Vm
end
section
namespace Vm
open Go.RowKit Go.Maps
def cF.now (b:cF) (w:World) (rr it:Nat) (itv:Value):cF:={ w with L:=fun g=>b.own g ∧ g ≠ rr ∧ g < w.heap.size,F:=fun i=>if i = it then some itv else none,O:=b.O,M:=b.M }
section
variable {P:Program} {nt:Nat} {w0:cF} {w w' : World} {h0 h h' : Hp} {fr fr' : Nat->V} {bl bl' : Nat->Option aO} {a a' : Act} {hd hd' : Nat->Value} {rr it:Nat} {itv:Value}
theorem XG {b:cF} (hs:b.heap.size <= w.heap.size) {g:Nat} (h:(b.now w rr it itv).own g):b.own g:=by
 rcases h with h | h
 ·exact .inl (ó hs h)
 ·exact h.1
theorem aCt {b:cF} (hlt:rr < w.heap.size):¬ (b.now w rr it itv).own rr:=by
 rintro (h | h)
 ·exact absurd h (Nat.not_le_of_lt hlt)
 ·exact h.2.1 rfl
theorem BR.rebase {b0 b1:cF} {id:Nat} {b:aO} (hown:b.live = true->∀ g,e9 (hd id) = some g->b0.own g) (hO:b0.O = b1.O) (r:BR b1 w h hd bl id b):BR b0 w h hd bl id b:=by
 cases b with
 | box cs =>
  obtain ⟨g,arr,e,h1,h2,h3⟩:=r
  exact ⟨g,arr,e,h1,hown rfl g (by rw [h1]; rfl),h3⟩
 | rows ver e size rows =>
  obtain ⟨h1,h2,h3,h4⟩:=r
  exact ⟨h1,h2,h3,fun g hg=>⟨(h4 g hg).1,hown rfl g hg⟩⟩
 | froz ver rows=>exact r
 | fbox cs=>exact r
 | mp ek m =>
  obtain ⟨g,h1,h2,h3⟩:=r
  exact ⟨g,h1,hown rfl g (by rw [h1]; rfl),h3⟩
 | fmp ek m=>exact r
 | outer cs =>
  intro j x hx
  rw [hO]
  exact r j x hx
theorem Rl.now (r:Rl nt w0 h0 fr bl a w h hd) (hS:aFr w0 h bl hd rr) (hit:a.tmps.getD it undef = itv):Rl nt (w0.now w rr it itv) h fr bl a w h hd where
 tmps:=r.tmps
 defers:=r.defers
 fixed:=fun t v e=>by
  simp only [cF.now] at e
  split at e
  ·rename_i q; cases e; rw [q]; exact hit
  ·cases e
 below:=CX.refl _ _
 hle:=r.hle
 h0le:=Hp.le.refl _
 glob:=r.globs
 hbase:=fun _ _=>rfl
 frame:=r.frame
 blk:=fun id b hb=>BR.rebase (b1:=w0) (fun hl g hg=>by
  obtain ⟨q1,q2,_⟩:=(r.blk id b hb).num hl hg
  exact .inr ⟨q1,fun e=>hS.off id b hb hl (e ▸ hg),q2⟩) rfl (r.blk id b hb)
 sep:=r.sep
theorem Rl.back (hF:∀ t,w0.F t = none) (r:Rl nt w0 h0 fr bl a w h hd) (r' : Rl nt (w0.now w rr it itv) h fr' bl' a' w' h' hd'):Rl nt w0 h0 fr' bl' a' w' h' hd' where
 tmps:=r'.tmps
 defers:=r'.defers
 fixed:=fun t v e=>by rw [hF t] at e; cases e
 below:=r.below.trans ⟨r'.below.os,r'.below.tape,r'.below.output,r'.below.size,fun k hk=>r'.below.block k fun q=>hk (XG r.below.size q)⟩
 hle:=r'.hle
 h0le:=r.h0le.trans r'.h0le
 glob:=r.glob
 hbase:=fun b hb=>(r'.hbase b fun q=>hb (XG r.below.size q)).trans (r.hbase b hb)
 frame:=r'.frame
 blk:=fun id b hb=>BR.rebase (b1:=w0.now w rr it itv) (fun hl g hg=>XG r.below.size ((r'.blk id b hb).num hl hg).1) rfl (r'.blk id b hb)
 sep:=r'.sep
theorem aFr.back (hS:aFr w0 h bl hd rr) (hlt:rr < w.heap.size) (r' : Rl nt (w0.now w rr it itv) h fr' bl' a' w' h' hd'):aFr w0 h' bl' hd' rr ∧ w'.heap[rr]? = w.heap[rr]? :=
 ⟨⟨hS.own,(r'.hbase rr (aCt hlt)).trans hS.out,fun id b hb hl q=>aCt hlt ((r'.blk id b hb).num hl q).1⟩,r'.below.block rr (aCt hlt)⟩
structure aE2 where
 it:Nat
 nx:Nat
 ok:Nat
 en:Nat
 k1:Nat
 kk:Nat
def aE2.slots (L:aE2):List Nat:=[L.nx,L.ok,L.en,L.k1,L.kk]
structure aWC (L:aE2) (oN oX e0 e1 e2:Oper):Prop where
 hN:oN.guard = none ∧ oN.op = .next (.tmp L.it) false ∧ oN.dst = some L.nx
 hX:oX.guard = none ∧ oX.op = .extract (.tmp L.nx) 0 ∧ oX.dst = some L.ok
 h0:e0.guard = none ∧ e0.op = .entry (.tmp L.it) ∧ e0.dst = some L.en
 h1:e1.guard = none ∧ e1.op = .extract (.tmp L.en) 0 ∧ e1.dst = some L.k1
 h2:e2.guard = none ∧ (e2.op = .assign (.tmp L.k1) ∨ e2.op = .move (.tmp L.k1)) ∧ e2.dst = some L.kk
def W5 (l:List (Int × ML)) (k:Int):Bool:=l.any fun p=>decide (p.1 = k)
structure aWf (ek0:Nat) (C:Nat->List D->Option D) (n m:Nat) (L:aE2) (sc:aP) (s s2:St):Prop where
 ex:∃ (ek:Nat) (l:List (Int × ML)) (Inv:(Int->Bool)->(Nat->V)->(Nat->Option aO)->Prop),(O9 m s).get m = .d (.mp ek l) ∧ (ek = ek0 ∨ ek = 2) ∧
  (∀ left fr bl fr',Inv left fr bl->(∀ t,t ∉ L.it :: L.slots->fr' t = fr t)->Inv left fr' bl) ∧
  (∀ left (s:St) (k:Int),nD k->Inv left s.get s.blk->left k = true->s.get L.kk = .d (.int .i64 k)->∃ s',bH C n sc s = some (.normal,s') ∧ Inv (fun z=>left z && !decide (z = k)) s'.get s'.blk) ∧
  Inv (fun k=>W5 l k) (O9 m s).get (O9 m s).blk ∧
  ∀ s' : St,Inv (fun _=>false) s'.get s'.blk->(∀ t,s2.get t = .any ∨ s2.get t = s'.get t) ∧ s2.blk = s'.blk
def XK (l m:List (Int × ML)):List (Int × ML):=m.filter fun p=>!W5 l p.1
def aBb (dead:List Nat) (fr:List (Nat × V)):List (Nat × V):=dead.map (fun t=>(t,V.any)) ++ fr
def aEM (ek0 m inn:Nat) (dead:List Nat) (s:St):Option St:=match (O9 m s).get m,(O9 m s).get inn with
 | .d (.mp ek l),.mp id=>match (O9 m s).blk id with
  | some (.mp ek' l2)=>if (ek = ek0 ∨ ek = 2) ∧ ek' = ek0 then some ⟨aBb dead (O9 m s).fr,(id,some (.mp ek' (XK l l2))) :: (O9 m s).bl⟩ else none
  | _=>none
 | .d (.mp ek l),.d (.mp 2 [])=>if ek = ek0 ∨ ek = 2 then some ⟨aBb dead (O9 m s).fr,(O9 m s).bl⟩ else none
 | _,_=>none
def MW (l:List (Int × ML)) (n:Nat):Bool:=l.all fun p=>decide (0 <= p.1) && decide (p.1.toNat < n)
def aAI (l:List (Int × ML)) (rows:List (List D)):List (List D):=rows.mapIdx fun i row=>if W5 l (i:Int) = true then [.bool true] else row
def aE7 (ek0 m out:Nat) (dead:List Nat) (s:St):Option St:=match (O9 m s).get m,(O9 m s).get out with
 | .d (.mp ek l),.own id ver=>match (O9 m s).blk id with
  | some (.rows v e size rows)=>if (ek = ek0 ∨ ek = 2) ∧ ver = v ∧ size = 1 ∧ MW l rows.length = true ∧ sized 1 rows = true then some ⟨aBb dead (O9 m s).fr,(id,some (.rows v e size (aAI l rows))) :: (O9 m s).bl⟩ else none
  | _=>none
 | _,_=>none
end
section
variable {P:Program} {nt:Nat}
theorem aK.cond {co:Operand} {o:bO} {c d:Code} {x y:aP} (h0:iA co = some o) (h1:aK P nt c x) (h2:aK P nt d y):aK P nt (.cond co c d) (.cond o x y):=by
 intro C hC n w0 h0' s s' ex a w h hd Q hF he r hQ
 have hc:=bC r.globs r.frame h0
 simp only [bH] at he
 split at he
 ·rename_i hb
  rw [hb] at hc
  exact wp_cond_true (oA hc) (h1 C hC n w0 h0' s s' ex a w h hd Q hF he r hQ)
 ·rename_i hb
  rw [hb] at hc
  exact ĺ (oA hc) (h2 C hC n w0 h0' s s' ex a w h hd Q hF he r hQ)
 ·cases he
theorem aK.block {id:Nat} {c:Code} {x:aP} (h1:aK P nt c x):aK P nt (.block id c) (.block id x):=by
 intro C hC n w0 h0 s s' ex a w h hd Q hF he r hQ
 refine wp_block ?_
 simp only [bH] at he
 split at he
 ·rename_i id'' s1 he1
  refine h1 C hC n w0 h0 s s1 (.exit id'') a w h hd _ hF he1 r fun a' w' h' hd' r'=>?_
  simp only [Ex.go,Exit.inBlock]
  split at he
  ·rename_i hid
   cases he
   rw [Â hid]
   exact hQ _ _ _ _ r'
  ·rename_i hid
   cases he
   rw [Ã hid]
   exact hQ _ _ _ _ r'
 ·rename_i hne
  refine h1 C hC n w0 h0 s s' ex a w h hd _ hF he r fun a' w' h' hd' r'=>?_
  cases ex with
  | normal=>exact hQ _ _ _ _ r'
  | exit id=>exact absurd he (hne _ _)
  | ret=>exact hQ _ _ _ _ r'
theorem aK.loop {c:Code} {x:aP} (h1:aK P nt c x):aK P nt (.loop c) (.loop x):=by
 intro C hC n w0 h0 s s' ex a w h hd Q hF he r hQ
 simp only [bH] at he
 refine aBq (fun k a w=>∃ s h hd,BH (bH C n x) k s = some (ex,s') ∧ Rl nt w0 h0 s.get s.blk a w h hd) (fun a w ⟨s,h,hd,q,_⟩=>by simp [BH] at q) ?_ n a w ⟨s,h,hd,he,r⟩
 rintro k a w ⟨s,h,hd,q,r⟩
 simp only [BH] at q
 split at q
 ·rename_i s1 he1
  exact h1 C hC n w0 h0 s s1 .normal a w h hd _ hF he1 r fun a' w' h' hd' r'=>⟨s1,h',hd',q,r'⟩
 ·rename_i hne
  refine h1 C hC n w0 h0 s s' ex a w h hd _ hF q r fun a' w' h' hd' r'=>?_
  cases ex with
  | normal=>exact absurd q (hne _)
  | exit id=>exact hQ _ _ _ _ r'
  | ret=>exact hQ _ _ _ _ r'
end
end Vm
end
section
namespace Vm
open Go.RowKit
abbrev MB:=List (Int × Bool)
def mB (m:MB):List (Int × ML):=m.map fun p=>(p.1,ML.b p.2)
def eB:Option MB->D
 | none=>.mp 2 []
 | some m=>.mp 1 (mB m)
def inM (m:MB) (k:Int):Bool:=m.any fun p=>decide (p.1 = k)
def aU3 (k:Int) (z:Bool):Option MB->Bool
 | none=>z
 | some m=>B9 k z m
def aSJ (l m:MB):MB:=m.filter fun p=>!inM l p.1
def aVD (l:Option MB) (m:MB):MB:=match l with
 | none=>m
 | some l=>aSJ l m
def aJZ (l:MB) (n:Nat):Bool:=l.all fun p=>decide (0 <= p.1) && decide (p.1.toNat < n)
def aL8 (l:MB) (xs:List Bool):List Bool:=xs.mapIdx fun i b=>if inM l (i:Int) = true then true else b
theorem aJO (k:Int) (b:Bool):∀ m:MB,D1 k (ML.b b) (mB m) = mB (D1 k b m)
 | []=>rfl
 | y :: r=>by
  show (if k < y.1 then _ else _) = mB (if k < y.1 then _ else _)
  split
  ·rfl
  ·show (y.1,ML.b y.2) :: D1 k (.b b) (mB r) = (y.1,ML.b y.2) :: mB (D1 k b r)
   rw [aJO k b r]
theorem aJD (k:Int) (m:MB):EX k (mB m) = mB (EX k m):=by
 unfold EX mB
 rw [List.filter_map]
 rfl
theorem aRw (k:Int) (b:Bool) (m:MB):IR k (ML.b b) (mB m) = mB (IR k b m):=by
 unfold IR
 rw [aJD,aJO]
theorem aLI (k:Int) (z:Bool) (m:MB):B9 k (ML.b z) (mB m) = .b (B9 k z m):=by
 unfold B9 mB
 rw [List.find?_map]
 have e:(fun p:Int × ML=>decide (p.1 = k)) ∘ (fun p:Int × Bool=>(p.1,ML.b p.2)) = fun p:Int × Bool=>decide (p.1 = k):=rfl
 rw [e]
 cases m.find? fun p=>decide (p.1 = k) <;> rfl
theorem aS3 (m:MB):(mB m).length = m.length:=â ..
theorem aRa (l:MB) (k:Int):W5 (mB l) k = inM l k:=by
 unfold W5 mB inM
 rw [List.any_map]
 rfl
theorem aS7 (l m:MB):XK (mB l) (mB m) = mB (aSJ l m):=by
 unfold XK aSJ
 simp only [aRa]
 show (m.map _).filter _ = _
 rw [List.filter_map]
 rfl
theorem aOf (m:MB):XK [] (mB m) = mB m:=by
 unfold XK W5
 simp
theorem aQn (l:MB) (n:Nat):MW (mB l) n = aJZ l n:=by
 unfold MW mB aJZ
 rw [List.all_map]
 rfl
theorem aSX (l:MB) (xs:List Bool):aAI (mB l) (cM cB xs) = cM cB (aL8 l xs):=by
 unfold aAI aL8 cM
 apply ē
 intro i
 simp only [List.getElem?_mapIdx,Ç,aRa]
 cases xs[i]? with
 | none=>rfl
 | some b =>
  simp only [Ù]
  cases inM l (i:Int) <;> rfl
theorem S2 (m:MB):(mB m).isEmpty = true ∨ (1:Nat) = 1:=.inr rfl
section
variable {β:Type} {T:wF} {d:Nat} {fr:List (Nat × V)} {bl:List (Nat × Option aO)} {k:V->Option β} {kw:V->List (Nat × Option aO)->Option β}
theorem aFO (ek:Nat):qF T d (.mkmap ek) fr bl k kw = bL bl d fun b=>gA b (kw (.mp d) [(d,some (.mp ek []))]):=by
 unfold qF bL
 simp only [cE]
 cases lk bl none d <;> rfl
theorem aD9:qF T d (.mkmap 1) fr bl k kw = bL bl d fun b=>gA b (kw (.mp d) [(d,some (.mp 1 (mB [])))]):=aFO 1
def aJE (ek:Nat) (m a x:V) (bl:List (Nat × Option aO)) (k:V->Option β) (kw:V->List (Nat × Option aO)->Option β):Option β:=GD (match m,KK a,aHf x with
  | .mp id,some n,some x=>match lk bl none id with
   | some (.mp ek' l)=>if x.kind = ek ∧ ek' = ek ∧ l.length < 1000000000000 then some (.any,[(id,some (.mp ek (IR n x l)))]) else none
   | _=>none
  | _,_,_=>none) k kw
theorem aKR (ek:Nat) (m a x:bO):qF T d (.mput ek m a x) fr bl k kw = bR fr m fun mv=>bR fr a fun av=>bR fr x fun xv=>aJE ek mv av xv bl k kw:=by
 rw [jR]
 rfl
def Y0 (n:Int) (b:Bool) (id:Nat) (y:Option aO) (kw:V->List (Nat × Option aO)->Option β):Option β:=match y with
 | some (.mp 1 l)=>if l.length < 1000000000000 then kw .any [(id,some (.mp 1 (IR n (.b b) l)))] else none
 | _=>none
theorem aFq (id:Nat) (n:Int) (b:Bool):aJE 1 (.mp id) (.d (.int .i64 n)) (.d (.bool b)) bl k kw = if nD n then bL bl id fun y=>Y0 n b id y kw else none:=by
 unfold aJE
 simp only [KK,aHf]
 by_cases h:nD n
 ·rw [Â h,Â h]
  unfold bL
  simp only
  cases lk bl none id with
  | none=>rfl
  | some y =>
   cases y with
   | mp ek l =>
    simp only [ML.kind,true_and]
    by_cases e:ek = 1
    ·subst e
     simp only [true_and,Y0]
     split <;> rfl
    ·rw [Ã (fun q=>e q.1)]
     match ek,e with
     | 0,_=>rfl
     | 1,e=>exact absurd rfl e
     | _ + 2,_=>rfl
   | _=>rfl
 ·rw [Ã h,Ã h]
  rfl
theorem aFo (n:Int) (b:Bool) (id:Nat) (m:MB):Y0 n b id (some (.mp 1 (mB m))) kw = if m.length < 1000000000000 then kw .any [(id,some (.mp 1 (mB (IR n b m))))] else none:=by
 unfold Y0
 simp only [aS3,aRw]
def QS (z:ML) (m a:V) (bl:List (Nat × Option aO)) (k:V->Option β):Option β:=match VG (lk bl none) m,KK a with
 | some (ek,l),some n=>if l.isEmpty = true ∨ z.kind = ek then k (.d (B9 n z l).d) else none
 | _,_=>none
theorem aKF (z:ML) (m a:bO):qF T d (.mget z m a) fr bl k kw = bR fr m fun mv=>bR fr a fun av=>QS z mv av bl k:=by
 unfold qF bR QS
 simp only [cE]
 cases VG (lk bl none) (bN (lk fr .any) m) with
 | none=>rfl
 | some p =>
  cases KK (bN (lk fr .any) a) with
  | none=>rfl
  | some n =>
   obtain ⟨ek,l⟩:=p
   simp only
   by_cases h:l.isEmpty = true ∨ z.kind = ek
   ·rw [Â h,Â h]
   ·rw [Ã h,Ã h]
def aD6 (z:Bool) (n:Int) (y:Option aO) (k:V->Option β):Option β:=match y with
 | some (.mp ek l)=>if l.isEmpty = true ∨ 1 = ek then k (.d (B9 n (.b z) l).d) else none
 | some (.fmp ek l)=>if l.isEmpty = true ∨ 1 = ek then k (.d (B9 n (.b z) l).d) else none
 | _=>none
theorem aG6 (z:Bool) (id:Nat) (n:Int):QS (.b z) (.mp id) (.d (.int .i64 n)) bl k = if nD n then bL bl id fun y=>aD6 z n y k else none:=by
 unfold QS
 simp only [KK,VG]
 by_cases h:nD n
 ·rw [Â h,Â h]
  unfold bL
  cases lk bl none id with
  | none=>rfl
  | some y=>cases y <;> rfl
 ·rw [Ã h,Ã h]
  cases lk bl none id with
  | none=>rfl
  | some y=>cases y <;> rfl
theorem WX (z:Bool) (n:Int) (m:MB):aD6 z n (some (.mp 1 (mB m))) k = k (.d (.bool (B9 n z m))):=by
 show (if (mB m).isEmpty = true ∨ (1:Nat) = 1 then k (.d (B9 n (.b z) (mB m)).d) else none) = _
 rw [Â (S2 m),aLI]
 rfl
theorem aDA (z:Bool) (n:Int) (m:MB):aD6 z n (some (.fmp 1 (mB m))) k = k (.d (.bool (B9 n z m))):=WX z n m
theorem aER (z:Bool) (n:Int) (m:MB):QS (.b z) (.d (.mp 1 (mB m))) (.d (.int .i64 n)) bl k = if nD n then k (.d (.bool (B9 n z m))) else none:=by
 unfold QS
 simp only [KK,VG]
 by_cases h:nD n
 ·rw [Â h,Â h]
  show (if (mB m).isEmpty = true ∨ (1:Nat) = 1 then k (.d (B9 n (.b z) (mB m)).d) else none) = _
  rw [Â (S2 m),aLI]
  rfl
 ·rw [Ã h,Ã h]
theorem aOH (z:Bool) (n:Int) (x:Option MB):QS (.b z) (.d (eB x)) (.d (.int .i64 n)) bl k = if nD n then k (.d (.bool (aU3 n z x))) else none:=by
 cases x with
 | none =>
  unfold QS
  simp only [KK,VG,eB]
  by_cases h:nD n
  ·rw [Â h,Â h]; rfl
  ·rw [Ã h,Ã h]
 | some m=>exact aER z n m
def aMw (ek:Nat) (m a:V) (bl:List (Nat × Option aO)) (k:V->Option β) (kw:V->List (Nat × Option aO)->Option β):Option β:=GD (match m,KK a with
  | .d (.mp 2 []),some _=>some (.any,[])
  | .mp id,some n=>match lk bl none id with
   | some (.mp ek' l)=>if ek' = ek then some (.any,[(id,some (.mp ek (EX n l)))]) else none
   | _=>none
  | _,_=>none) k kw
theorem aJp (ek:Nat) (m a:bO):qF T d (.mdel ek m a) fr bl k kw = bR fr m fun mv=>bR fr a fun av=>aMw ek mv av bl k kw:=by
 rw [jR]
 rfl
def Y4 (n:Int) (id:Nat) (y:Option aO) (kw:V->List (Nat × Option aO)->Option β):Option β:=match y with
 | some (.mp ek l)=>if ek = 1 then kw .any [(id,some (.mp 1 (EX n l)))] else none
 | _=>none
theorem aIs (id:Nat) (n:Int):aMw 1 (.mp id) (.d (.int .i64 n)) bl k kw = if nD n then bL bl id fun y=>Y4 n id y kw else none:=by
 unfold aMw
 simp only [KK]
 by_cases h:nD n
 ·rw [Â h,Â h]
  unfold bL
  simp only
  cases lk bl none id with
  | none=>rfl
  | some y =>
   cases y with
   | mp ek l =>
    simp only [Y4]
    split <;> rfl
   | _=>rfl
 ·rw [Ã h,Ã h]
  rfl
theorem aG1 (n:Int) (id:Nat) (m:MB):Y4 n id (some (.mp 1 (mB m))) kw = kw .any [(id,some (.mp 1 (mB (EX n m))))]:=by
 unfold Y4
 simp only [Ë,aJD]
theorem aHJ (i:Nat) (k:List V->Option β):xJ (.mp i) k = k [.mp i]:=rfl
def d1M (id:Nat) (b:Option aO) (k:D->List (Nat × Option aO)->Option β):Option β:=match b with
 | some (.mp ek m)=>k (.mp ek m) [(id,some (.fmp ek m))]
 | some (.fmp ek m)=>k (.mp ek m) []
 | _=>none
theorem aRV (id ek:Nat) (m:List (Int × ML)) (k:D->List (Nat × Option aO)->Option β):d1M id (some (.mp ek m)) k = k (.mp ek m) [(id,some (.fmp ek m))]:=rfl
theorem aOy (id ek:Nat) (m:List (Int × ML)) (k:D->List (Nat × Option aO)->Option β):d1M id (some (.fmp ek m)) k = k (.mp ek m) []:=rfl
theorem aRq (id:Nat) (k:D->List (Nat × Option aO)->Option β):T3 (.mp id) bl k = bL bl id fun b=>d1M id b k:=by
 unfold T3 bL d1M
 simp only [iQ,CP,nF,GC]
 generalize lk bl none id = b
 cases b with
 | none=>rfl
 | some b=>cases b <;> rfl
theorem aP8 (id:Nat) (k:D->List (Nat × Option aO)->Option β):DA (.mp id) bl k = T3 (.mp id) bl k:=rfl
theorem aMf (id:Nat) (cs:List V) (kk:List D->List (Nat × Option aO)->Option β):zQ bl (.mp id :: cs) kk = T3 (.mp id) bl fun x g=>zQ bl cs fun ds f=>kk (x :: ds) (g ++ f):=by
 rw [O5]
 unfold T3
 simp only [aT,ì,O5]
 cases iQ (lk bl none) (.mp id) with
 | none=>rfl
 | some x =>
  cases aT (iQ (lk bl none)) cs <;> rfl
theorem aM8 (id:Nat) (k:List D->List (Nat × Option aO)->Option β):ON (.mp id) bl k = T3 (.mp id) bl fun x f=>k [x] f:=by
 unfold ON T3
 show (match aT (iQ (lk bl none)) [.mp id] with | some row=>k row (CP (lk bl none) (.mp id)) | none=>none) = _
 simp only [aT]
 cases iQ (lk bl none) (.mp id) <;> rfl
def pE:List V->Option β->Option β
 | [],y=>y
 | v :: l,y=>if v.noTup = true then pE l y else none
theorem W6 (y:Option β):∀ l:List V,pE l y = if l.all V.noTup = true then y else none
 | []=>rfl
 | v :: l=>by
  by_cases h:v.noTup = true
  ·simp [pE,h,W6 y l]
  ·simp [pE,h]
theorem aM6 (dst:Option Nat) (slots:List Nat) (cs:List V) (v u:V) (l:List V) (k:List (Nat × V)->Option β):VX dst slots cs (v :: u :: l) k = pE (v :: u :: l) (k (PW dst (.tup (v :: u :: l)) ++ slots.zip cs)):=by
 rw [T4,W6]
theorem aCh (y:Option β):pE [] y = y:=rfl
theorem aK6 (x:D) (l:List V) (y:Option β):pE (.d x :: l) y = pE l y:=rfl
theorem aGb (i:Nat) (l:List V) (y:Option β):pE (.mp i :: l) y = pE l y:=rfl
theorem aEc (i v:Nat) (l:List V) (y:Option β):pE (.own i v :: l) y = pE l y:=rfl
theorem aEd (i v:Nat) (l:List V) (y:Option β):pE (.ptr i v :: l) y = pE l y:=rfl
theorem aJ3 (l:List V) (y:Option β):pE (.nil :: l) y = pE l y:=rfl
theorem aCz (cs l:List V) (y:Option β):pE (.agg cs :: l) y = pE l y:=rfl
theorem aAa (ds:List D) (l:List V) (y:Option β):pE (b9 ds :: l) y = pE l y:=rfl
def aNB (id:Nat) (b:Option aO) (k:V->List (Nat × Option aO)->Option β) (y:Option β):Option β:=match b with
 | some (.mp ek m)=>k (.d (.mp ek m)) [(id,some (.fmp ek m))]
 | some (.fmp ek m)=>k (.d (.mp ek m)) []
 | _=>y
theorem aN5 (id:Nat) (k:V->List (Nat × Option aO)->Option β) (y:Option β):LD (.mp id) bl k y = bL bl id fun b=>aNB id b k y:=by
 unfold LD bL aNB
 simp only [nF,GC]
 generalize lk bl none id = b
 cases b with
 | none=>rfl
 | some b=>cases b <;> rfl
theorem aOE (id ek:Nat) (m:List (Int × ML)) (k:V->List (Nat × Option aO)->Option β) (y:Option β):aNB id (some (.mp ek m)) k y = k (.d (.mp ek m)) [(id,some (.fmp ek m))]:=rfl
theorem aJo (id ek:Nat) (m:List (Int × ML)) (k:V->List (Nat × Option aO)->Option β) (y:Option β):aNB id (some (.fmp ek m)) k y = k (.d (.mp ek m)) []:=rfl
section
variable (keep:List Nat)
def UN (id:Nat) (b:Option aO) (k:V->Option β):Option β:=match b with
 | some (.mp _ _)=>fU keep id (k (.mp id)) (k .any)
 | some (.fmp ek m)=>k (.d (.mp ek m))
 | _=>k .any
theorem aMP (id:Nat):qH keep bl (.mp id) k = bL bl id fun b=>UN keep id b k:=by
 unfold qH bL UN fU
 simp only [HK,QW,uI]
 generalize lk bl none id = b
 cases b with
 | none=>rfl
 | some b=>cases b <;> first | rfl | (simp only; cases h:keep.contains id <;> simp)
theorem aGo (id ek:Nat) (m:List (Int × ML)):UN keep id (some (.mp ek m)) k = fU keep id (k (.mp id)) (k .any):=rfl
theorem aDK (id ek:Nat) (m:List (Int × ML)):UN keep id (some (.fmp ek m)) k = k (.d (.mp ek m)):=rfl
theorem aBy (id:Nat):UN keep id none k = k .any:=rfl
theorem aHB (id:Nat) (cs:List V) (k:List V->Option β):rX keep bl (.mp id :: cs) k = qH keep bl (.mp id) fun v=>rX keep bl cs fun l=>k (v :: l):=by simp only [t9]; rfl
theorem aGI (ek:Nat) (m:List (Int × ML)) (k:Option aO->Option β):A5 keep bl (some (.mp ek m)) k = k (some (.mp ek m)):=rfl
theorem aDe (ek:Nat) (m:List (Int × ML)) (k:Option aO->Option β):A5 keep bl (some (.fmp ek m)) k = k none:=rfl
end
theorem aOi (i:Nat) (k:List Nat->Option β):FX (.mp i) k = k [i]:=rfl
theorem aKX (i:Nat) (k:List Nat->Option β):BN bl (.mp i) k = k [i]:=rfl
theorem aHt (i:Nat) (cs:List V) (k:List Nat->Option β):tM bl (.mp i :: cs) k = tM bl cs fun l=>k (i :: l):=by simp only [xX]; rfl
theorem aFz (i:Nat) (cs:List V) (k:List Nat->Option β):tH (.mp i :: cs) k = tH cs fun l=>k (i :: l):=by simp only [xW]; rfl
theorem W1 {m:Nat} {g:V->List (Nat × V)->List (Nat × Option aO)->Option St} {f:St->Option St} (hf:∀ s:St,f s = match (O9 m s).get m with
  | .d x=>g (.d x) (O9 m s).fr (O9 m s).bl
  | _=>none) (k:Ex->St->Option β):bM T (.hand f) ⟨fr,bl⟩ k = kW fr m fun v=>LD v bl (fun v' wr=>match g v' ((m,v') :: fr) (wr ++ bl) with
  | some s=>k .normal s
  | none=>none) none:=by
 unfold bM
 have hfr:O9 m ⟨fr,bl⟩ = (match nF (lk bl none) (lk fr .any m) with
  | some d=>⟨(m,.d d) :: fr,GC (lk bl none) (lk fr .any m) ++ bl⟩
  | none=>⟨fr,bl⟩ : St):=rfl
 rw [aEV,hf,hfr]
 unfold kW LD
 have e:(⟨fr,bl⟩ : St).get m = lk fr .any m:=rfl
 generalize lk fr .any m = v at e
 cases h:nF (lk bl none) v with
 | none =>
  simp only
  rw [e]
  cases v with
  | d x=>cases h
  | _=>simp only [h]; rfl
 | some x =>
  simp only
  have e:(⟨(m,V.d x) :: fr,GC (lk bl none) v ++ bl⟩ : St).get m = .d x:=by simp [St.get,lk]
  rw [e]
  simp only [h]
  cases g (.d x) ((m,.d x) :: fr) (GC (lk bl none) v ++ bl) <;> rfl
def HH (ek0:Nat) (v u:V) (bl:List (Nat × Option aO)) (kk:List (Nat × Option aO)->Option β):Option β:=match v,u with
 | .d (.mp ek l),.mp id=>match lk bl none id with
  | some (.mp ek' l2)=>if (ek = ek0 ∨ ek = 2) ∧ ek' = ek0 then kk [(id,some (.mp ek' (XK l l2)))] else none
  | _=>none
 | .d (.mp ek l),.d (.mp 2 [])=>if ek = ek0 ∨ ek = 2 then kk [] else none
 | _,_=>none
theorem XZ (dead:List Nat) (fr:List (Nat × V)):aBb dead fr = HX dead fr:=by
 induction dead with
 | nil=>rfl
 | cons t l ih =>
  show (t,V.any) :: aBb l fr = (t,V.any) :: HX l fr
  rw [ih]
theorem aBs (ek0 m inn:Nat) (dead:List Nat) (k:Ex->St->Option β):bM T (.hand (aEM ek0 m inn dead)) ⟨fr,bl⟩ k = kW fr m fun v=>LD v bl (fun v' wr=>kW ((m,v') :: fr) inn fun u=>HH ek0 v' u (wr ++ bl) fun w2=>k .normal ⟨HX dead ((m,v') :: fr),w2 ++ (wr ++ bl)⟩) none:=by
 rw [W1 (g:=fun v fr bl=>HH ek0 v (lk fr .any inn) bl fun w2=>some ⟨HX dead fr,w2 ++ bl⟩) (fun s=>?_) k]
 ·unfold kW
  refine ă (fun q=>LD (lk fr .any m) bl q none) ?_
  funext v' wr
  generalize lk ((m,v') :: fr) .any inn = u
  unfold HH
  cases v' with
  | d x =>
   cases x with
   | mp ek l =>
    cases u with
    | mp id =>
     simp only
     cases lk (wr ++ bl) none id with
     | none=>rfl
     | some y =>
      cases y with
      | mp ek' l2=>by_cases hc:(ek = ek0 ∨ ek = 2) ∧ ek' = ek0 <;> first | (simp only [Â hc]; done) | (simp only [Ã hc]; done)
      | _=>rfl
    | d y =>
     cases y with
     | mp e2 l2 =>
      match e2,l2 with
      | 2,[]=>by_cases hc:ek = ek0 ∨ ek = 2 <;> first | (simp only [Â hc]; done) | (simp only [Ã hc]; done)
      | 2,_ :: _=>rfl
      | 0,_=>rfl
      | 1,_=>rfl
      | _ + 3,_=>rfl
     | _=>rfl
    | _=>rfl
   | _=>rfl
  | _=>rfl
 ·unfold aEM HH
  generalize O9 m s = s1
  have e1:s1.get inn = lk s1.fr .any inn:=rfl
  rw [e1]
  cases s1.get m with
  | d x =>
   cases x with
   | mp ek l =>
    cases lk s1.fr .any inn with
    | mp id =>
     simp only
     have e2:s1.blk id = lk s1.bl none id:=rfl
     rw [e2]
     cases lk s1.bl none id with
     | none=>rfl
     | some y =>
      cases y with
      | mp ek' l2=>simp only [XZ]; rfl
      | _=>rfl
    | d y =>
     cases y with
     | mp e2 l2 =>
      match e2,l2 with
      | 2,[]=>simp only [XZ]; rfl
      | 2,_ :: _=>rfl
      | 0,_=>rfl
      | 1,_=>rfl
      | _ + 3,_=>rfl
     | _=>rfl
    | _=>rfl
   | _=>cases lk s1.fr .any inn <;> rfl
  | _=>cases lk s1.fr .any inn <;> rfl
def aEu (l:List (Int × ML)) (id:Nat) (y:Option aO) (kk:List (Nat × Option aO)->Option β):Option β:=match y with
 | some (.mp ek' l2)=>if ek' = 1 then kk [(id,some (.mp 1 (XK l l2)))] else none
 | _=>none
theorem aA6 {ek:Nat} (h:ek = 1 ∨ ek = 2) (l:List (Int × ML)) (id:Nat) (kk:List (Nat × Option aO)->Option β):HH 1 (.d (.mp ek l)) (.mp id) bl kk = bL bl id fun y=>aEu l id y kk:=by
 unfold HH bL aEu
 simp only
 cases lk bl none id with
 | none=>rfl
 | some y =>
  cases y with
  | mp ek' l2 =>
   simp only
   by_cases e:ek' = 1
   ·subst e
    rw [Â ⟨h,rfl⟩,Â rfl]
   ·rw [Ã (fun q=>e q.2),Ã e]
  | _=>rfl
def aEP (x:Option MB) (id:Nat) (y:Option aO) (kk:List (Nat × Option aO)->Option β):Option β:=match x with
 | none=>aEu [] id y kk
 | some l=>aEu (mB l) id y kk
theorem aEA (l:MB) (id:Nat) (kk:List (Nat × Option aO)->Option β):HH 1 (.d (.mp 1 (mB l))) (.mp id) bl kk = bL bl id fun y=>aEP (some l) id y kk:=aA6 (.inl rfl) (mB l) id kk
theorem aEE (id:Nat) (kk:List (Nat × Option aO)->Option β):HH 1 (.d (.mp 2 [])) (.mp id) bl kk = bL bl id fun y=>aEP none id y kk:=aA6 (.inr rfl) [] id kk
theorem aQw (x:Option MB) (id:Nat) (kk:List (Nat × Option aO)->Option β):HH 1 (.d (eB x)) (.mp id) bl kk = bL bl id fun y=>aEP x id y kk:=by
 cases x with
 | none=>exact aEE id kk
 | some l=>exact aEA l id kk
theorem aKA (l:MB) (kk:List (Nat × Option aO)->Option β):HH 1 (.d (.mp 1 (mB l))) (.d (.mp 2 [])) bl kk = kk []:=rfl
theorem aIV (kk:List (Nat × Option aO)->Option β):HH 1 (.d (.mp 2 [])) (.d (.mp 2 [])) bl kk = kk []:=rfl
theorem aMJ (x:Option MB) (kk:List (Nat × Option aO)->Option β):HH 1 (.d (eB x)) (.d (.mp 2 [])) bl kk = kk []:=by cases x <;> rfl
theorem aMn (x:Option MB) (id:Nat) (m:MB) (kk:List (Nat × Option aO)->Option β):aEP x id (some (.mp 1 (mB m))) kk = kk [(id,some (.mp 1 (mB (aVD x m))))]:=by
 cases x with
 | none =>
  show (if (1:Nat) = 1 then kk [(id,some (.mp 1 (XK [] (mB m))))] else none) = _
  rw [Â rfl,aOf]
  rfl
 | some l =>
  show (if (1:Nat) = 1 then kk [(id,some (.mp 1 (XK (mB l) (mB m))))] else none) = _
  rw [Â rfl,aS7]
  rfl
def WP (ek0:Nat) (v u:V) (bl:List (Nat × Option aO)) (kk:List (Nat × Option aO)->Option β):Option β:=match v,u with
 | .d (.mp ek l),.own id ver=>match lk bl none id with
  | some (.rows v e size rows)=>if (ek = ek0 ∨ ek = 2) ∧ ver = v ∧ size = 1 ∧ MW l rows.length = true ∧ sized 1 rows = true then kk [(id,some (.rows v e size (aAI l rows)))] else none
  | _=>none
 | _,_=>none
theorem aBE (ek0 m out:Nat) (dead:List Nat) (k:Ex->St->Option β):bM T (.hand (aE7 ek0 m out dead)) ⟨fr,bl⟩ k = kW fr m fun v=>LD v bl (fun v' wr=>kW ((m,v') :: fr) out fun u=>WP ek0 v' u (wr ++ bl) fun w2=>k .normal ⟨HX dead ((m,v') :: fr),w2 ++ (wr ++ bl)⟩) none:=by
 rw [W1 (g:=fun v fr bl=>WP ek0 v (lk fr .any out) bl fun w2=>some ⟨HX dead fr,w2 ++ bl⟩) (fun s=>?_) k]
 ·unfold kW
  refine ă (fun q=>LD (lk fr .any m) bl q none) ?_
  funext v' wr
  generalize lk ((m,v') :: fr) .any out = u
  unfold WP
  cases v' with
  | d x =>
   cases x with
   | mp ek l =>
    cases u with
    | own id ver =>
     simp only
     cases lk (wr ++ bl) none id with
     | none=>rfl
     | some y =>
      cases y with
      | rows v e size rows=>by_cases hc:(ek = ek0 ∨ ek = 2) ∧ ver = v ∧ size = 1 ∧ MW l rows.length = true ∧ sized 1 rows = true <;> first | (simp only [Â hc]; done) | (simp only [Ã hc]; done)
      | _=>rfl
    | _=>rfl
   | _=>rfl
  | _=>rfl
 ·unfold aE7 WP
  generalize O9 m s = s1
  have e1:s1.get out = lk s1.fr .any out:=rfl
  rw [e1]
  cases s1.get m with
  | d x =>
   cases x with
   | mp ek l =>
    cases lk s1.fr .any out with
    | own id ver =>
     simp only
     have e2:s1.blk id = lk s1.bl none id:=rfl
     rw [e2]
     cases lk s1.bl none id with
     | none=>rfl
     | some y =>
      cases y with
      | rows v e size rows=>simp only [XZ]; rfl
      | _=>rfl
    | _=>rfl
   | _=>cases lk s1.fr .any out <;> rfl
  | _=>cases lk s1.fr .any out <;> rfl
def YL (l:List (Int × ML)) (id ver:Nat) (y:Option aO) (kk:List (Nat × Option aO)->Option β):Option β:=match y with
 | some (.rows v e size rows)=>if ver = v ∧ size = 1 ∧ MW l rows.length = true ∧ sized 1 rows = true then kk [(id,some (.rows v e size (aAI l rows)))] else none
 | _=>none
theorem aPz (l:MB) (id ver:Nat) (kk:List (Nat × Option aO)->Option β):WP 1 (.d (.mp 1 (mB l))) (.own id ver) bl kk = bL bl id fun y=>YL (mB l) id ver y kk:=by
 unfold WP bL YL
 simp only
 cases lk bl none id with
 | none=>rfl
 | some y =>
  cases y with
  | rows v e size rows =>
   simp only
   by_cases h:ver = v ∧ size = 1 ∧ MW (mB l) rows.length = true ∧ sized 1 rows = true
   ·rw [Â h,Â ⟨.inl trivial,h⟩]
   ·rw [Ã h,Ã fun q=>h q.2]
  | _=>rfl
theorem aBc (l:MB) (id v e:Nat) (xs:List Bool) (kk:List (Nat × Option aO)->Option β):YL (mB l) id v (some (.rows v e 1 (cM cB xs))) kk = if aJZ l xs.length = true then kk [(id,some (.rows v e 1 (cM cB (aL8 l xs))))] else none:=by
 unfold YL
 simp only [yE,aQn,aSX,aAc,true_and,and_true]
end
end Vm
end
section
namespace Vm
open Go.RowKit
section
variable {β:Type} {T:wF} {d:Nat} {fr:List (Nat × V)} {bl:List (Nat × Option aO)} {k:V->Option β} {kw:V->List (Nat × Option aO)->Option β}
theorem aO5 (op:fT) (m:bO) (k:List Nat->Option β) (h1:op.new = false) (h2:op.peeks = [m]) (h3:op.deeps = []):EY d op fr bl k = bR fr m fun v=>FX v k:=by
 unfold EY bR FX
 rw [h1,h2,h3]
 simp
end
end Vm
end
section
namespace Vm
open Go.RowKit
def EV {α:Type} (c:α->List D):Option α->D
 | none=>.np
 | some x=>.ptr (c x) 0
def cPt {α:Type} (c:α->List D) (x:Option α):List D:=[EV c x]
section
variable {β α:Type} {T:wF} {d:Nat} {fr:List (Nat × V)} {bl:List (Nat × Option aO)} {k:V->Option β} {kw:V->List (Nat × Option aO)->Option β}
def SS (neg:Bool) (v:V) (k:V->Option β):Option β:=match aAq neg v with
 | some d=>k (.d d)
 | none=>none
theorem aL3 (neg:Bool) (x:bO):qF T d (.isnp neg x) fr bl k kw = bR fr x fun a=>SS neg a k:=by
 unfold qF bR SS
 simp only [cE]
 cases aAq neg (bN (lk fr .any) x) <;> rfl
theorem aHs (neg:Bool) (i o:Nat):SS neg (.ptr i o) k = k (.d (.bool neg)):=rfl
theorem aCf (neg:Bool) (row:List D) (o:Nat):SS neg (.d (.ptr row o)) k = k (.d (.bool neg)):=rfl
theorem aJR (neg:Bool):SS neg (.d .np) k = k (.d (.bool (!neg))):=rfl
theorem aKu (c:α->List D) (x:Option α):SS false (.d (EV c x)) k = k (.d (.bool x.isNone)):=by cases x <;> rfl
theorem aMD (c:α->List D) (x:Option α):SS true (.d (EV c x)) k = k (.d (.bool x.isSome)):=by cases x <;> rfl
theorem aR3 (c:α->List D) (x:Option α):aFH (.d (EV c x)) bl k = x.bind fun y=>k (.d (.ptr (c y) 0)):=by cases x <;> rfl
def iaK (n size:Nat) (x i:V) (bl:List (Nat × Option aO)) (k:V->Option β):Option β:=match i with
 | .d (.int _ q)=>if 0 <= q ∧ q < n then faK (q.toNat * size) x bl k else none
 | _=>none
theorem YN (n size:Nat) (x i:bO):qF T d (.indexArr n size x i) fr bl k kw = bR fr x fun a=>bR fr i fun b=>iaK n size a b bl k:=by
 unfold qF bR iaK
 simp only [cE]
 generalize bN (lk fr .any) x = a
 generalize bN (lk fr .any) i = b
 cases b with
 | d y =>
  cases y with
  | int kd q =>
   dsimp only
   by_cases h:0 <= q ∧ q < n
   ·rw [Â h,Â h]
    unfold faK
    cases a with
    | d z=>cases z <;> rfl
    | orow id ver i off =>
     dsimp only
     unfold bL VY
     cases lk bl none id with
     | none=>rfl
     | some b =>
      cases b with
      | rows v e s r=>dsimp only; by_cases hv:ver = v <;> simp [hv]
      | _=>rfl
    | _=>rfl
   ·rw [Ã h,Ã h]
  | _=>rfl
 | _=>rfl
theorem aRj (kd:IntKind) (size id off:Nat):iaK 2 size (.ptr id off) (.d (.int kd 0)) bl k = k (.ptr id off):=by
 show (if (0:Int) <= 0 ∧ (0:Int) < ((2:Nat):Int) then faK (0 * size) (.ptr id off) bl k else none) = _
 rw [Â (by decide),Nat.zero_mul]
 rfl
theorem aSt (kd:IntKind) (id off:Nat):iaK 2 1 (.ptr id off) (.d (.int kd 1)) bl k = k (.ptr id (off + 1)):=by
 show (if (0:Int) <= 1 ∧ (1:Int) < ((2:Nat):Int) then faK (1 * 1) (.ptr id off) bl k else none) = _
 rw [Â (by decide)]
 rfl
def ixK (n:Nat) (x i:V) (k:V->Option β):Option β:=match i with
 | .d (.int _ q)=>if 0 <= q ∧ q < n then (match x with
  | .agg cs=>if cs.length = n then cs[q.toNat]?.bind k else none
  | _=>none) else none
 | _=>none
theorem aIN (n:Nat) (x i:bO):qF T d (.idxA n x i) fr bl k kw = bR fr x fun a=>bR fr i fun b=>ixK n a b k:=by
 unfold qF bR ixK
 simp only [cE]
 generalize bN (lk fr .any) x = a
 generalize bN (lk fr .any) i = b
 cases b with
 | d y =>
  cases y with
  | int kd q =>
   dsimp only
   by_cases h:0 <= q ∧ q < n
   ·rw [Â h,Â h]
    cases a with
    | agg cs =>
     dsimp only
     by_cases hl:cs.length = n
     ·rw [Â hl,Â hl]
      cases cs[q.toNat]? <;> rfl
     ·rw [Ã hl,Ã hl]
    | _=>rfl
   ·rw [Ã h,Ã h]
  | _=>rfl
 | _=>rfl
theorem aSW (ds:List D) (kd:IntKind) (q:Int):ixK 2 (b9 ds) (.d (.int kd q)) k = kA ds 2 (if q = 0 then cA ds 0 fun x=>k (.d x) else if q = 1 then cA ds 1 fun x=>k (.d x) else none):=by
 show (if 0 <= q ∧ q < ((2:Nat):Int) then (if (aE ds).length = 2 then (aE ds)[q.toNat]?.bind k else none) else none) = _
 unfold kA
 have hl:(aE ds).length = ds.length:=TX ds
 rw [hl]
 by_cases h2:ds.length = 2
 ·rw [Â h2,Â h2]
  match ds,h2 with
  | [a,b],_ =>
   by_cases q0:q = 0
   ·subst q0
    rfl
   ·rw [Ã q0]
    by_cases q1:q = 1
    ·subst q1
     rfl
    ·rw [Ã q1,Ã (by omega)]
 ·rw [Ã h2,Ã h2]
  split <;> rfl
theorem aRo (a b:V) (kd:IntKind) (q:Int):ixK 2 (.agg [a,b]) (.d (.int kd q)) k = if q = 0 then k a else if q = 1 then k b else none:=by
 show (if 0 <= q ∧ q < ((2:Nat):Int) then (if 2 = 2 then [a,b][q.toNat]?.bind k else none) else none) = _
 rw [Â rfl]
 by_cases q0:q = 0
 ·subst q0
  rfl
 ·rw [Ã q0]
  by_cases q1:q = 1
  ·subst q1
   rfl
  ·rw [Ã q1,Ã (by omega)]
theorem aL4 (n:Bool) (x:bO) (k:List Nat->Option β):EY d (.isnp n x) fr bl k = k []:=rfl
theorem aKs (n:Nat) (x i:bO) (k:List Nat->Option β):EY d (.idxA n x i) fr bl k = k []:=rfl
theorem X0 (n s:Nat) (x i:bO) (k:List Nat->Option β):EY d (.indexArr n s x i) fr bl k = bR fr x fun v=>FX v k:=aO5 _ _ _ rfl rfl rfl
theorem aBX (ds:List D):aT (nF (lk bl none)) (aE ds) = some ds ∧ (aE ds).flatMap (GC (lk bl none)) = []:=by
 have h1:=XE (bl:=bl) (aE ds) (fun ds f=>some (ds,f))
 rw [EZ] at h1
 cases h:aT (nF (lk bl none)) (aE ds) with
 | none=>rw [h] at h1; cases h1
 | some ds' =>
  rw [h] at h1
  have h2:(ds,([]:List (Nat × Option aO))) = (ds',(aE ds).flatMap (GC (lk bl none))):=ã h1
  rw [ú] at h2
  exact ⟨by rw [h2.1],h2.2.symm⟩
theorem Z6 (id off:Nat) (ds:List D) (k:V->List (Nat × Option aO)->Option β) (y:Option β):aEb id off (some (.box (aE ds))) bl k y = k (.d (.ptr ds off)) [(id,some (.fbox ds))]:=by
 unfold aEb
 obtain ⟨h1,h2⟩:=aBX (bl:=bl) ds
 dsimp only
 rw [h1,h2]
def EB (bl:List (Nat × Option aO)) (cs:List V) (k:List D->List (Nat × Option aO)->Option β) (y:Option β):Option β:=match aT (nF (lk bl none)) cs with
 | some ds=>k ds (cs.flatMap (GC (lk bl none)))
 | none=>y
theorem aLk (id off:Nat) (c:V) (cs:List V) (k:V->List (Nat × Option aO)->Option β) (y:Option β):aEb id off (some (.box (c :: cs))) bl k y = EB bl (c :: cs) (fun ds f=>k (.d (.ptr ds off)) ((id,some (.fbox ds)) :: f)) y:=rfl
theorem aGX (k:List D->List (Nat × Option aO)->Option β) (y:Option β):EB bl [] k y = k [] []:=rfl
theorem MA (v:V) (cs:List V) (k:List D->List (Nat × Option aO)->Option β) (y:Option β):EB bl (v :: cs) k y = match nF (lk bl none) v with
 | some x=>EB bl cs (fun ds f=>k (x :: ds) (GC (lk bl none) v ++ f)) y
 | none=>y:=by
 unfold EB
 rw [ì]
 simp only [aT]
 cases nF (lk bl none) v with
 | none=>rfl
 | some x =>
  dsimp only
  cases aT (nF (lk bl none)) cs <;> rfl
theorem aNG (x:D) (cs:List V) (k:List D->List (Nat × Option aO)->Option β) (y:Option β):EB bl (.d x :: cs) k y = EB bl cs (fun ds f=>k (x :: ds) f) y:=by
 rw [MA]
 rfl
theorem aPv (cs:List V) (k:List D->List (Nat × Option aO)->Option β) (y:Option β):EB bl (.nil :: cs) k y = EB bl cs (fun ds f=>k (.sl [] :: ds) f) y:=by
 rw [MA]
 rfl
def aFl (id ver:Nat) (b:Option aO) (bl:List (Nat × Option aO)) (cs:List V) (k:List D->List (Nat × Option aO)->Option β) (y:Option β):Option β:=match b with
 | some (.rows v _ _ rows)=>if ver = v then EB bl cs (fun ds f=>k (.sl rows :: ds) ((id,some (.froz v rows)) :: f)) y else y
 | some (.froz v rows)=>if ver = v then EB bl cs (fun ds f=>k (.sl rows :: ds) f) y else y
 | _=>y
theorem aGn (id ver:Nat) (cs:List V) (k:List D->List (Nat × Option aO)->Option β) (y:Option β):EB bl (.own id ver :: cs) k y = bL bl id fun b=>aFl id ver b bl cs k y:=by
 rw [MA]
 unfold bL aFl
 simp only [nF,GC]
 generalize lk bl none id = b
 cases b with
 | none=>rfl
 | some b =>
  cases b with
  | rows v e s r =>
   dsimp only
   by_cases hv:ver = v
   ·rw [Â hv,Â hv]; rfl
   ·rw [Ã hv,Ã hv]
  | froz v r =>
   dsimp only
   by_cases hv:ver = v
   ·rw [Â hv,Â hv]; rfl
   ·rw [Ã hv,Ã hv]
  | _=>rfl
theorem aBK (id v e s:Nat) (rows:List (List D)) (cs:List V) (k:List D->List (Nat × Option aO)->Option β) (y:Option β):aFl id v (some (.rows v e s rows)) bl cs k y = EB bl cs (fun ds f=>k (.sl rows :: ds) ((id,some (.froz v rows)) :: f)) y:=Â rfl
theorem aDE (id v:Nat) (rows:List (List D)) (cs:List V) (k:List D->List (Nat × Option aO)->Option β) (y:Option β):aFl id v (some (.froz v rows)) bl cs k y = EB bl cs (fun ds f=>k (.sl rows :: ds) f) y:=Â rfl
theorem aD4 (off id f:Nat) (vs:List V) (c:V) (cs:List V) (kw:V->List (Nat × Option aO)->Option β):aG 1 off id (.fn f vs) (some (.box (c :: cs))) kw = CE (c :: cs) off (.fn f vs) fun l=>kw .any [(id,some (.box l))]:=F7 off id _ c cs rfl rfl
theorem aMG (i:Nat) (l:List V):s8 i ([] ++ l) = s8 i l:=rfl
theorem aKU (i:Nat) (v:V) (l m:List V):s8 i ((v :: l) ++ m) = s8 i (v :: (l ++ m)):=rfl
end
end Vm
end
section
namespace Vm
open Go.RowKit
abbrev L0 (o:Oper) (op:Op) (d:Option Nat):Prop:=o.guard = none ∧ o.op = op ∧ o.dst = d
section
variable {P:Program} {w:World}
end
section
variable {P:Program} {nt:Nat} {w0:cF} {w wV:World} {h0 h:Hp} {fr:Nat->V} {bl:Nat->Option aO} {a:Act} {hd:Nat->Value}
end
structure aAe where
 tB:Nat
 tI:Nat
 tK:Nat
 q0:Nat
 c1:Nat
 c2:Nat
 c3:Nat
 c4:Nat
 c5:Nat
 c6:Nat
 ln:Nat
 ls:Nat
 e1:Nat
 e2:Nat
 e3:Nat
 e4:Nat
 e5:Nat
 e6:Nat
 k2:Nat
 ix:Nat
 fa:Nat
 u1:Nat
 u2:Nat
def aAe.all (L:aAe):List Nat:=[L.tK,L.q0,L.c1,L.c2,L.c3,L.c4,L.c5,L.c6,L.ln,L.ls,L.e1,L.e2,L.e3,L.e4,L.e5,L.e6,L.k2,L.ix,L.fa,L.u1,L.u2]
structure aAe.Ok (L:aAe):Prop where
 a1:L.q0 ∉ [L.c1,L.c2,L.c3,L.c4,L.c5,L.c6]
 a2:L.q0 ≠ L.ln
 k1:L.tK ≠ L.ls
 k2:L.tK ≠ L.ln
 k3:L.tK ∉ [L.c1,L.c2,L.c3,L.c4,L.c5,L.c6]
 k4:L.tK ≠ L.q0
 k5:L.tK ∉ [L.e1,L.e2,L.e3,L.e4,L.e5,L.e6]
 k6:L.tK ≠ L.fa
 k7:L.tK ≠ L.ix
 k8:L.tK ≠ L.k2
 e6:L.e6 ≠ L.k2
structure aQ1 (P:Program) where
 tR:TypeId
 fR:Nat
 tS:TypeId
 tO:TypeId
 fO:Nat
 tC:TypeId
 tE:TypeId
 fE:Nat
 tW:TypeId
 fsR:Array Field
 fdR:Field
 fsO:Array Field
 fdO:Field
 fsE:Array Field
 fdE:Field
 iS:TypeInfo
 iO:TypeInfo
 iC:TypeInfo
 iE:TypeInfo
 iW:TypeInfo
 h1:P.underlying tR = some (.struct fsR) ∧ fsR[fR]? = some fdR ∧ P.info? fdR.type = some iS ∧ (iS.size == 0) = false
 h2:lZ P tS = some false ∧ P.info? tS = some iS ∧ P.underlying tS = some (.slice tO) ∧ P.info? tO = some iO
 h3:P.underlying tO = some (.struct fsO) ∧ fsO[fO]? = some fdO ∧ P.info? fdO.type = some iC ∧ (iC.size == 0) = false
 h4:lZ P tC = some false ∧ P.info? tC = some iC ∧ P.underlying tC = some (.slice tE) ∧ P.info? tE = some iE
 h5:P.underlying tE = some (.struct fsE) ∧ fsE[fE]? = some fdE ∧ P.info? fdE.type = some iW ∧ (iW.size == 0) = false
 h6:P.info? tW = some iW ∧ iW.size = 1
structure aRb {P:Program} (T:aQ1 P) (tB tI c1 c2 c3 c4 c5 c6:Nat) (o1 o2 o3 o4 o5 o6:Oper):Prop where
 h1:L0 o1 (.fieldAddr T.tR (.tmp tB) T.fR) (some c1)
 h2:L0 o2 (.load T.tS (.tmp c1)) (some c2)
 h3:L0 o3 (.move (.tmp tI)) (some c3)
 h4:L0 o4 (.indexAddr T.tS (.tmp c2) (.tmp c3)) (some c4)
 h5:L0 o5 (.fieldAddr T.tO (.tmp c4) T.fO) (some c5)
 h6:L0 o6 (.load T.tC (.tmp c5)) (some c6)
 n32:c3 ≠ c2
section
variable {P:Program} {nt:Nat} {w0:cF} {w wV:World} {h0 h:Hp} {fr:Nat->V} {bl:Nat->Option aO} {a:Act} {hd:Nat->Value}
end
structure aWg {P:Program} (T:aQ1 P) (L:aAe) (o0 o1 o2 o3 o4 o5 o6 o7 o8 p1 p2 p3 p4 p5 p6 p7 p8 p9 p10 x1 x2 x3:Oper) (tI:TypeId) (yI:TypeId) (cW c1:Operand):Prop where
 h0:L0 o0 (.move (.tmp L.tK)) (some L.q0)
 h1:aRb T L.tB L.tI L.c1 L.c2 L.c3 L.c4 L.c5 L.c6 o1 o2 o3 o4 o5 o6
 h7:o7.guard = none ∧ o7.dst = some L.ln ∧ ∀ ρ:Operand->Value,execOp ρ o7 = (do pure (.value (← Builtin.len_ #[T.tC] o7.type #[ρ (.tmp L.c6)])))
 h8:L0 o8 (.binOp .lss tI (.tmp L.q0) (.tmp L.ln) yI) (some L.ls)
 g1:aRb T L.tB L.tI L.e1 L.e2 L.e3 L.e4 L.e5 L.e6 p1 p2 p3 p4 p5 p6
 g7:L0 p7 (.move (.tmp L.tK)) (some L.k2)
 g8:L0 p8 (.indexAddr T.tC (.tmp L.e6) (.tmp L.k2)) (some L.ix)
 g9:L0 p9 (.fieldAddr T.tE (.tmp L.ix) T.fE) (some L.fa)
 g10:L0 p10 (.store T.tW (.tmp L.fa) cW) none
 f1:L0 x1 (.move (.tmp L.tK)) (some L.u1)
 f2:L0 x2 (.binOp .add tI (.tmp L.u1) c1 yI) (some L.u2)
 f3:L0 x3 (.assign (.tmp L.u2)) (some L.tK)
 cW:∀ a:Act,a.eval cW = .bool false
 c1:∀ a:Act,a.eval c1 = .int .i64 1
section
variable {P:Program} {nt:Nat} {w0:cF} {h0 h:Hp} {bl0:Nat->Option aO} {hd:Nat->Value}
end
section
variable {P:Program}
end
end Vm
end
section
namespace Vm
open Go.RowKit
section
variable {β:Type} {T:wF} {fr:List (Nat × V)} {bl:List (Nat × Option aO)}
end
end Vm
end
section
namespace Vm
open Go.RowKit
section
variable {β:Type} {T:wF} {d:Nat} {fr:List (Nat × V)} {bl:List (Nat × Option aO)} {k:V->Option β} {kw:V->List (Nat × Option aO)->Option β}
end
end Vm
end
end Go.Proofs.YtoefdnkjcfoccaaDoor
