/- A map that is laid and ranged over, each entry written into a row of the call's own: in whatever order. The small machine, read from the front: a range over a map that is laid. A range over a map keyed by numbers, each round of which is code of the small machine: in whatever order. The small machine, read from the front: maps of bools keyed by numbers. 'slices.Sorted(maps.Keys(m))' as one piece: what it does to the state. -/
import Derived.Test.YtmekbfccmnjdcaaVmD
import Derived.Maps.RangeWalk
import Derived.WalkArith
import Derived.Test.YtmekbfccmnjdcaaVmF
import Derived.Laws.IdiomRangeMap
set_option linter.unusedVariables false
set_option linter.unusedSimpArgs false
namespace Go.Proofs.Ytmekbfccmnjdcaa
namespace Vm
open Go.RowKit Go.Maps
def deadS (dead:List Nat) (s:St):List (Nat × V):=dead.map (fun t=>(t,V.any)) ++ s.fr
def setsL (cell:V→Option (List D)) (s:St):List (Nat × Nat)→List (List D)→Option (List (List D))
 | [],rows=>some rows
 | (k,t) :: l,rows=>match cell (s.get t) with
  | some row=>if k < rows.length then setsL cell s l (rows.set k row) else none
  | none=>none
def handG (out:Nat) (cell:V→Option (List D)) (ks:List (Nat × Nat)) (dead:List Nat) (s:St):Option St:=match s.get out with
 | .own id ver=>match s.blk id with
  | some (.rows v e size rows)=>if ver = v ∧ size = 2 then match setsL cell s ks rows with
    | some rows'=>some ⟨deadS dead s,(id,some (.rows v e size rows')) :: s.bl⟩
    | none=>none
   else none
  | _=>none
 | _=>none
section
variable {P:Program} {nt:Nat} {w0:Base} {w w' : World} {h0 h:Hp} {fr:Nat→V} {bl:Nat→Option Blk} {a:Act} {hd:Nat→Value}
structure Side (w0:Base) (h:Hp) (bl:Nat→Option Blk) (hd:Nat→Value) (g:Nat):Prop where
 own:w0.own g
 out:h g = none
 off:∀ id b,bl id = some b→b.live = true→numOf (hd id) ≠ some g
theorem Rl.side (r:Rl nt w0 h0 fr bl a w h hd) {row:Option Nat} (hg:w.grownBy w' row) (hS:∀ g,row = some g→Side w0 h bl hd g):Rl nt w0 h0 fr bl a w' h hd where
 tmps:=r.tmps
 defers:=r.defers
 fixed:=r.fixed
 below:=r.below.trans (Bel.grown hg r.below.size fun k hk=>(hS k hk).own)
 hle:=fun b o e=>by
  have h1:=r.hle b o e
  refine (hg.block b (Array.getElem?_eq_some_iff.1 h1).1 fun q=>?_).trans h1
  rw [(hS b q.symm).out] at e; cases e
 h0le:=r.h0le
 hbase:=r.hbase
 frame:=r.frame
 blk:=fun id b hb=>(r.blk id b hb).keep (Hp.le.refl _) (Kp.refl _ _) rfl fun hl g hg'=>⟨hg.block g ((r.blk id b hb).num hl hg').2.1 fun q=>(hS g q.symm).off id b hb hl hg',fun q=>q⟩
 sep:=r.sep
theorem Side.new (r:Rl nt w0 h0 fr bl a w h hd) {g:Nat} (hg:w.heap.size ≤ g):Side w0 h bl hd g where
 own:=.inl (Nat.le_trans r.below.size hg)
 out:=h_fresh r.hle hg
 off:=fun id b hb hl q=>by have:=((r.blk id b hb).num hl q).2.1; omega
theorem getD_put' (r:Rl nt w0 h0 fr bl a w h hd) {d:Nat} (hd' : d < nt) (cv:Value) (t:Nat):(a.put (some d) cv).tmps.getD t undef = if d = t then cv else a.tmps.getD t undef:=by
 rw [getD_put a (some d) cv t nt r.tmps fun x e=>by cases e; exact hd']
 simp only [Option.some.injEq]
theorem wpOp_plain {ops:Array Oper} {Q:Exit→Act→World→Prop} {K:Act→World→Prop} {i:Nat} {o:Oper} (ho:ops[i]? = some o) (hg:o.guard = none) (h:o.wp P a w K Q):wpOp P ops Q i K a w:=by
 unfold wpOp
 rw [ho]
 simp only
 rw [if_pos (by simp [Region.wanted,hg])]
 exact .inl h
theorem execOp_next {o:Oper} {ρ:Operand→Value} {x:Operand} (h:o.op = .next x false):execOp ρ o = (do pure (.value (← Instr.next (ρ x) false o.type))):=by simp [execOp,h]
theorem execOp_entry {o:Oper} {ρ:Operand→Value} {x:Operand} (h:o.op = .entry x):execOp ρ o = (do pure (.value (← Instr.entry (ρ x)))):=by simp [execOp,h]
theorem execOp_extract {o:Oper} {ρ:Operand→Value} {x:Operand} {i:Nat} (h:o.op = .extract x i):execOp ρ o = (do pure (.value (← Instr.extract (ρ x) i))):=by simp [execOp,h]
theorem execOp_assign {o:Oper} {ρ:Operand→Value} {x:Operand} (h:o.op = .assign x ∨ o.op = .move x):execOp ρ o = (do pure (.value (← (pure (ρ x):Sem Value)))):=by rcases h with h | h <;> simp [execOp,h]
structure LoopC where
 it:Nat
 nx:Nat
 ok:Nat
 en:Nat
 k1:Nat
 v1:Nat
 kk:Nat
 vv:Nat
 d1:Nat
 d2:Nat
 d3:Nat
 dc:Nat
 da:Nat
 out:Nat
def LoopC.slots (L:LoopC):List Nat:=[L.nx,L.ok,L.en,L.k1,L.v1,L.kk,L.vv,L.d1,L.d2,L.d3,L.dc,L.da]
theorem putStep (r:Rl nt w0 h0 fr bl a w h hd) (hF:∀ t,w0.F t = none) {d:Nat} (hd' : d < nt) (cv:Value) (v:V) (hv:R3 h hd bl cv v) :
  ∃ a',a.put (some d) cv = a' ∧ Rl nt w0 h0 (updF fr (some d) v) bl a' w h hd ∧ a'.tmps.getD d undef = cv ∧ ∀ t,t ≠ d→a'.tmps.getD t undef = a.tmps.getD t undef :=
 ⟨_,rfl,r.put0 (some d) cv v (fun x e=>by cases e; exact ⟨hd',hF d⟩) hv,by rw [getD_put' r hd',if_pos rfl],fun t ht=>by rw [getD_put' r hd',if_neg (Ne.symm ht)]⟩
def cFst:Code→Code
 | .seq a _=>a
 | c=>c
def cSnd:Code→Code
 | .seq _ b=>b
 | c=>c
def opsOf:Code→Array Oper
 | .region _ ops _=>ops
 | _=>#[]
theorem info_parts {P:Program} {e:TypeId} {z:Value} {s b:Nat} (h:(P.info? e).map (fun i=>(i.zero,i.size,i.bytes)) = some (some z,s,b)):∃ i,P.info? e = some i ∧ i.zero = some z ∧ i.size = s ∧ i.bytes = b:=by
 cases hi:P.info? e with
 | none=>rw [hi] at h; cases h
 | some i=>rw [hi] at h; simp only [Option.map_some,Option.some.injEq,Prod.mk.injEq] at h; exact ⟨i,rfl,h.1,h.2.1,h.2.2⟩
def AllP {α:Type} (Q:α→Prop):List α→Prop
 | []=>True
 | x :: l=>Q x ∧ AllP Q l
theorem AllP.all {α:Type} {Q:α→Prop}:∀ {l:List α},AllP Q l→∀ x ∈ l,Q x
 | [],_,x,h=>by simp at h
 | y :: l,q,x,h=>by
  rcases List.mem_cons.1 h with rfl | h
  ·exact q.1
  ·exact AllP.all q.2 x h
end
end Vm
end Go.Proofs.Ytmekbfccmnjdcaa
set_option linter.unusedVariables false
set_option linter.unusedSimpArgs false
namespace Go.Proofs.Ytmekbfccmnjdcaa
namespace Vm
open Go.RowKit
section
variable {β:Type} {T:Tbl} {fr:List (Nat × V)} {bl:List (Nat × Option Blk)}
def handBK (ver:Nat) (b:Option Blk) (g:Nat→List (List D)→Option β):Option β:=match b with
 | some (.rows v e size rows)=>if ver = v ∧ size = 2 then g e rows else none
 | _=>none
theorem handBK_rows (v e:Nat) (rows:List (List D)) (g:Nat→List (List D)→Option β):handBK v (some (.rows v e 2 rows)) g = g e rows:=if_pos ⟨rfl,rfl⟩
def setsK (cell:V→Option (List D)) (fr:List (Nat × V)):List (Nat × Nat)→List (List D)→(List (List D)→Option β)→Option β
 | [],rows,g=>g rows
 | (k,t) :: l,rows,g=>getK fr t fun v=>(cell v).bind fun row=>if k < rows.length then setsK cell fr l (rows.set k row) g else none
theorem setsK_nil (cell:V→Option (List D)) (rows:List (List D)) (g:List (List D)→Option β):setsK cell fr [] rows g = g rows:=rfl
theorem setsK_eq (cell:V→Option (List D)) (b:List (Nat × Option Blk)) (g:List (List D)→Option β):∀ (l:List (Nat × Nat)) (rows:List (List D)),setsK cell fr l rows g = (setsL cell ⟨fr,b⟩ l rows).bind g
 | [],rows=>rfl
 | (k,t) :: l,rows=>by
  simp only [setsK,setsL,getK]
  rw [get_mk]
  cases cell (lk fr .any t) with
  | none=>rfl
  | some row =>
   simp only [Option.bind_some,setsK_eq cell b g l]
   split <;> rfl
def deadF:List Nat→List (Nat × V)→List (Nat × V)
 | [],fr=>fr
 | t :: l,fr=>(t,.any) :: deadF l fr
theorem deadF_nil:deadF [] fr = fr:=rfl
theorem deadF_cons (t:Nat) (l:List Nat):deadF (t :: l) fr = (t,.any) :: deadF l fr:=rfl
theorem deadF_eq (b:List (Nat × Option Blk)):∀ l:List Nat,deadS l ⟨fr,b⟩ = deadF l fr
 | []=>rfl
 | t :: l=>by
  show (t,V.any) :: (deadS l ⟨fr,b⟩) = _
  rw [deadF_eq b l]
  rfl
theorem evK_hand (out:Nat) (cell:V→Option (List D)) (ks:List (Nat × Nat)) (dead:List Nat) (k:Ex→St→Option β):evK T (.hand (handG out cell ks dead)) ⟨fr,bl⟩ k = getK fr out fun v=>ownK v fun id ver=>blkK bl id fun b=>handBK ver b fun e rows=>setsK cell fr ks rows fun rows'=>k .normal ⟨deadF dead fr,(id,some (.rows ver e 2 rows')) :: bl⟩:=by
 unfold evK
 rw [ev_hand]
 unfold handG getK
 rw [get_mk]
 cases lk fr .any out with
 | own id ver =>
  simp only [ownK,blkK,handBK]
  rw [blk_fn]
  cases lk bl none id with
  | none=>rfl
  | some b =>
   cases b with
   | rows v e size rows =>
    simp only
    split
    ·rename_i hc
     obtain ⟨rfl,rfl⟩:=hc
     rw [setsK_eq cell bl]
     cases setsL cell ⟨fr,bl⟩ ks rows with
     | none=>rfl
     | some rows'=>simp only [Option.map_some,Option.bind_some,deadF_eq]
    ·rfl
   | _=>rfl
 | _=>rfl
def setI (v:V) (g:Int→Option β):Option β:=match v with
 | .d (.int .i64 n)=>g n
 | _=>none
def setB (v:V) (g:Bool→Option β):Option β:=match v with
 | .d (.bool b)=>g b
 | _=>none
theorem setI_i (n:Int) (g:Int→Option β):setI (.d (.int .i64 n)) g = g n:=rfl
theorem setB_b (b:Bool) (g:Bool→Option β):setB (.d (.bool b)) g = g b:=rfl
end
end Vm
end Go.Proofs.Ytmekbfccmnjdcaa
set_option linter.unusedVariables false
set_option linter.unusedSimpArgs false
namespace Go.Proofs.Ytmekbfccmnjdcaa
namespace Vm
open Go.RowKit Go.Maps
def Base.now (b:Base) (w:World) (rr it:Nat) (itv:Value):Base:={ w with L:=fun g=>b.own g ∧ g ≠ rr ∧ g < w.heap.size,F:=fun i=>if i = it then some itv else none,O:=b.O }
section
variable {P:Program} {nt:Nat} {w0:Base} {w w' : World} {h0 h h' : Hp} {fr fr' : Nat→V} {bl bl' : Nat→Option Blk} {a a' : Act} {hd hd' : Nat→Value} {rr it:Nat} {itv:Value}
theorem now_own {b:Base} (hs:b.heap.size ≤ w.heap.size) {g:Nat} (h:(b.now w rr it itv).own g):b.own g:=by
 rcases h with h | h
 ·exact .inl (Nat.le_trans hs h)
 ·exact h.1
theorem now_rr {b:Base} (hlt:rr < w.heap.size):¬ (b.now w rr it itv).own rr:=by
 rintro (h | h)
 ·exact absurd h (Nat.not_le_of_lt hlt)
 ·exact h.2.1 rfl
theorem BR.rebase {b0 b1:Base} {id:Nat} {b:Blk} (hown:b.live = true→∀ g,numOf (hd id) = some g→b0.own g) (hO:b0.O = b1.O) (r:BR b1 w h hd bl id b):BR b0 w h hd bl id b:=by
 cases b with
 | box cs =>
  obtain ⟨g,arr,e,h1,h2,h3⟩:=r
  exact ⟨g,arr,e,h1,hown rfl g (by rw [h1]; rfl),h3⟩
 | rows ver e size rows =>
  obtain ⟨h1,h2,h3,h4⟩:=r
  exact ⟨h1,h2,h3,fun g hg=>⟨(h4 g hg).1,hown rfl g hg⟩⟩
 | froz ver rows=>exact r
 | fbox cs=>exact r
 | mp ek m =>
  obtain ⟨g,h1,h2,h3⟩:=r
  exact ⟨g,h1,hown rfl g (by rw [h1]; rfl),h3⟩
 | fmp ek m=>exact r
 | outer cs =>
  intro j x hx
  rw [hO]
  exact r j x hx
theorem Rl.now (r:Rl nt w0 h0 fr bl a w h hd) (hS:Side w0 h bl hd rr) (hit:a.tmps.getD it undef = itv):Rl nt (w0.now w rr it itv) h fr bl a w h hd where
 tmps:=r.tmps
 defers:=r.defers
 fixed:=fun t v e=>by
  simp only [Base.now] at e
  split at e
  ·rename_i q; cases e; rw [q]; exact hit
  ·cases e
 below:=Bel.refl _ _
 hle:=r.hle
 h0le:=Hp.le.refl _
 hbase:=fun _ _=>rfl
 frame:=r.frame
 blk:=fun id b hb=>BR.rebase (b1:=w0) (fun hl g hg=>by
  obtain ⟨q1,q2,_⟩:=(r.blk id b hb).num hl hg
  exact .inr ⟨q1,fun e=>hS.off id b hb hl (e ▸ hg),q2⟩) rfl (r.blk id b hb)
 sep:=r.sep
theorem Rl.back (hF:∀ t,w0.F t = none) (r:Rl nt w0 h0 fr bl a w h hd) (r' : Rl nt (w0.now w rr it itv) h fr' bl' a' w' h' hd'):Rl nt w0 h0 fr' bl' a' w' h' hd' where
 tmps:=r'.tmps
 defers:=r'.defers
 fixed:=fun t v e=>by rw [hF t] at e; cases e
 below:=r.below.trans ⟨r'.below.os,r'.below.tape,r'.below.output,r'.below.size,fun k hk=>r'.below.block k fun q=>hk (now_own r.below.size q)⟩
 hle:=r'.hle
 h0le:=r.h0le.trans r'.h0le
 hbase:=fun b hb=>(r'.hbase b fun q=>hb (now_own r.below.size q)).trans (r.hbase b hb)
 frame:=r'.frame
 blk:=fun id b hb=>BR.rebase (b1:=w0.now w rr it itv) (fun hl g hg=>now_own r.below.size ((r'.blk id b hb).num hl hg).1) rfl (r'.blk id b hb)
 sep:=r'.sep
theorem Side.back (hS:Side w0 h bl hd rr) (hlt:rr < w.heap.size) (r' : Rl nt (w0.now w rr it itv) h fr' bl' a' w' h' hd'):Side w0 h' bl' hd' rr ∧ w'.heap[rr]? = w.heap[rr]? :=
 ⟨⟨hS.own,(r'.hbase rr (now_rr hlt)).trans hS.out,fun id b hb hl q=>now_rr hlt ((r'.blk id b hb).num hl q).1⟩,r'.below.block rr (now_rr hlt)⟩
theorem ranges_to {H:Type} {k:TypeId} {R:Value→Option (DataW H × List MemPlace)} {b r n:Nat} {D:DataW H} {left:Lit→Bool} {cnt:Nat} (h:w.ranges P k R b r n D left cnt) (hb:w'.heap[b]? = w.heap[b]?) (hr:w'.heap[r]? = w.heap[r]?):w'.ranges P k R b r n D left cnt:=by
 obtain ⟨es,clock,since,seen,c0,h1,F,hs,hD,h2,rest⟩:=h
 exact ⟨es,clock,since,seen,c0,hb.trans h1,F,hs,hD,hr.trans h2,rest⟩
theorem put_get (s:St) (d:Nat) (v:V):(s.put (some d) v []).get = updF s.get (some d) v:=by
 funext t; simp only [St.put,St.get,lk,updF,Option.some.injEq]
 by_cases e:t = d
 ·simp [e]
 ·rw [if_neg e,if_neg (Ne.symm e)]
theorem put_blk (s:St) (d:Nat) (v:V):(s.put (some d) v []).blk = s.blk:=rfl
theorem putS {s:St} (r:Rl nt w0 h0 s.get s.blk a w h hd) (hF:∀ t,w0.F t = none) {d:Nat} (hd' : d < nt) (cv:Value) (v:V) (hv:R3 h hd s.blk cv v) :
  ∃ a',a.put (some d) cv = a' ∧ Rl nt w0 h0 (s.put (some d) v []).get (s.put (some d) v []).blk a' w h hd ∧ a'.tmps.getD d undef = cv ∧ ∀ t,t ≠ d→a'.tmps.getD t undef = a.tmps.getD t undef:=by
 obtain ⟨a',e1,r1,q1,q2⟩:=putStep r hF hd' cv v hv
 exact ⟨a',e1,by rw [put_get]; exact r1,q1,q2⟩
structure RLoop where
 it:Nat
 nx:Nat
 ok:Nat
 en:Nat
 k1:Nat
 kk:Nat
def RLoop.slots (L:RLoop):List Nat:=[L.nx,L.ok,L.en,L.k1,L.kk]
structure ROps (L:RLoop) (oN oX e0 e1 e2:Oper):Prop where
 hN:oN.guard = none ∧ oN.op = .next (.tmp L.it) false ∧ oN.dst = some L.nx
 hX:oX.guard = none ∧ oX.op = .extract (.tmp L.nx) 0 ∧ oX.dst = some L.ok
 h0:e0.guard = none ∧ e0.op = .entry (.tmp L.it) ∧ e0.dst = some L.en
 h1:e1.guard = none ∧ e1.op = .extract (.tmp L.en) 0 ∧ e1.dst = some L.k1
 h2:e2.guard = none ∧ (e2.op = .assign (.tmp L.k1) ∨ e2.op = .move (.tmp L.k1)) ∧ e2.dst = some L.kk
theorem key_same (z k:Int):Lit.sameKey (.int .i64 z) (.int .i64 k) = decide (z = k):=by
 show decide (IntKind.i64 = .i64 ∧ z = k) = decide (z = k)
 simp
theorem range_loop {C:Nat→List D→Option D} (hC:CSound P C) (hm:P.follows .mixedOrders = true) {n:Nat} {kT eT g N:Nat} {M:DataW Unit} (hkT:P.underlying kT = some (.int .i64)) (hF:∀ t,w0.F t = none) (L:RLoop) (hlt:∀ t ∈ L.slots,t < nt) (hnd:(L.it :: L.slots).Nodup)
  {r1 r2 b0 b1:Nat} {oN oX e0 e1 e2:Oper} (ho:ROps L oN oX e0 e1 e2) {cB:Code} {sc:SCode} (hlow:lowC P nt cB = some sc.bare) (hno:noDst L.it sc = true)
  (Inv:(Int→Bool)→(Nat→V)→(Nat→Option Blk)→Prop) (hI1:∀ left fr bl fr',Inv left fr bl→(∀ t,t ∉ L.slots→fr' t = fr t)→Inv left fr' bl)
  (hI2:∀ left (s:St) (k:Int),in64 k→Inv left s.get s.blk→left k = true→s.get L.kk = .d (.int .i64 k)→∃ s',evalN C n sc s = some (.normal,s') ∧ Inv (fun z=>left z && !decide (z = k)) s'.get s'.blk)
  {Q:Exit→Act→World→Prop} (hQ:∀ a w h hd (s:St),Rl nt w0 h0 s.get s.blk a w h hd→Inv (fun _=>false) s.get s.blk→Q .normal a w) :
  ∀ (a:Act) (w:World) (h:Hp) (hd:Nat→Value) (s:St) (left:Lit→Bool) (cnt:Nat),Rl nt w0 h0 s.get s.blk a w h hd→Inv (fun k=>left (.int .i64 k)) s.get s.blk→(h g).isSome = true→w.ranges P kT (plainElem P eT) g rr N M left cnt→Side w0 h s.blk hd rr →
   a.tmps.getD L.it undef = .pointer (some ⟨rr,0,none⟩) →
  (Code.block b0 (.loop (.seq (.region r1 #[oN,oX] false) (.seq (.cond (.tmp L.ok) .skip (.exit b0)) (.block b1 (.seq (.region r2 #[e0,e1,e2] false) cB)))))).wp P Q a w:=by
 intro a w h hd s left cnt r hI hg hrg hS hit
 simp only [RLoop.slots,List.nodup_cons,List.mem_cons,List.not_mem_nil,or_false,not_or,List.nodup_nil,not_false_eq_true,and_true] at hnd
 obtain ⟨⟨i_nx,i_ok,i_en,i_k1,i_kk⟩,⟨nx_ok,nx_en,nx_k1,nx_kk⟩,⟨ok_en,ok_k1,ok_kk⟩,⟨en_k1,en_kk⟩,k1_kk⟩:=hnd
 have q1:L.nx < nt:=hlt _ (by simp [RLoop.slots])
 have q2:L.ok < nt:=hlt _ (by simp [RLoop.slots])
 have q3:L.en < nt:=hlt _ (by simp [RLoop.slots])
 have q4:L.k1 < nt:=hlt _ (by simp [RLoop.slots])
 have q5:L.kk < nt:=hlt _ (by simp [RLoop.slots])
 have m1:L.nx ∈ L.slots:=by simp [RLoop.slots]
 have m2:L.ok ∈ L.slots:=by simp [RLoop.slots]
 have m3:L.en ∈ L.slots:=by simp [RLoop.slots]
 have m4:L.k1 ∈ L.slots:=by simp [RLoop.slots]
 have m5:L.kk ∈ L.slots:=by simp [RLoop.slots]
 have hput:∀ (left:Int→Bool) (s:St) (d:Nat) (v:V),d ∈ L.slots→Inv left s.get s.blk→Inv left (s.put (some d) v []).get (s.put (some d) v []).blk:=fun left s d v hd hI=>by
  rw [put_get,put_blk]
  refine hI1 left s.get s.blk _ hI fun t ht=>?_
  have:¬ some d = some t:=fun e=>ht (Option.some.inj e ▸ hd)
  simp only [updF,if_neg this]
 refine wp_block ?_
 refine wp_loopN (fun c a w=>∃ (h:Hp) (hd:Nat→Value) (s:St) (left:Lit→Bool) (cnt:Nat),cnt < c ∧ Rl nt w0 h0 s.get s.blk a w h hd ∧ Inv (fun k=>left (.int .i64 k)) s.get s.blk ∧ (h g).isSome = true ∧ w.ranges P kT (plainElem P eT) g rr N M left cnt ∧ Side w0 h s.blk hd rr ∧ a.tmps.getD L.it undef = .pointer (some ⟨rr,0,none⟩))
  (fun a w ⟨_,_,_,_,_,q,_⟩=>by omega) ?_ (cnt + 1) a w ⟨h,hd,s,left,cnt,by omega,r,hI,hg,hrg,hS,hit⟩
 clear hit hS hrg hg hI r cnt left s hd h w a
 rintro c a w ⟨h,hd,s,left,cnt,hck,r,hI,hg,hrg,hS,hit⟩
 refine wp_seq (wp_region ?_)
 rw [show List.range (#[oN,oX]:Array Oper).size = [0,1] from rfl,wpOps_cons]
 refine wpOp_plain (o:=oN) rfl ho.hN.1 ?_
 have hnext:=hrg.next (int_keyed hkT) oN.type
 rw [← hit] at hnext
 rcases hnext with ⟨h0c,hl0,hrun⟩ | ⟨key,v,kl,y,w1,cnt',hkey,hlk,hv,hat,hrun,hrg1,hlt1,hgr,hsz,hen⟩
 ·refine wp_val (execOp_next ho.hN.2.1) hrun ?_
  rw [ho.hN.2.2]
  obtain ⟨aa,f1,ra,ga,oa⟩:=putS r hF q1 (.tuple #[.bool false]) .any trivial
  rw [f1,wpOps_cons]
  refine wpOp_plain (o:=oX) rfl ho.hX.1 ?_
  refine wp_val (execOp_extract ho.hX.2.1) (cv:=.bool false) (w':=w) (by rw [show aa.eval (.tmp L.nx) = .tuple #[.bool false] from ga]; simp [Instr.extract]) ?_
  rw [ho.hX.2.2]
  obtain ⟨ab,f2,rb,gb,ob⟩:=putS ra hF q2 (.bool false) .any trivial
  rw [f2]
  refine wp_seq (wp_cond_false gb (wp_exit ?_))
  simp only [Exit.then,Exit.inBlock,if_true]
  refine hQ _ _ _ _ _ rb ?_
  have:=hput _ _ L.ok .any m2 (hput _ _ L.nx .any m1 hI)
  have e:(fun k:Int=>left (.int .i64 k)) = fun _=>false:=by funext k; exact hl0 _
  rw [e] at this
  exact this
 ·obtain ⟨k,hkv,hkl,hwf⟩:=keyOf_int_inv hkT hkey
  subst hkv
  subst hkl
  refine wp_val (execOp_next ho.hN.2.1) hrun ?_
  rw [ho.hN.2.2]
  have rw1:=r.side hgr (fun g hg=>by cases hg; exact hS)
  obtain ⟨aa,f1,ra,ga,oa⟩:=putS rw1 hF q1 (.tuple #[.bool true,.int .i64 k,v]) .any trivial
  rw [f1,wpOps_cons]
  refine wpOp_plain (o:=oX) rfl ho.hX.1 ?_
  refine wp_val (execOp_extract ho.hX.2.1) (cv:=.bool true) (w':=w1) (by rw [show aa.eval (.tmp L.nx) = .tuple #[.bool true,.int .i64 k,v] from ga]; simp [Instr.extract]) ?_
  rw [ho.hX.2.2]
  obtain ⟨ab,f2,rb,gb,ob⟩:=putS ra hF q2 (.bool true) .any trivial
  rw [f2]
  have itb:ab.tmps.getD L.it undef = .pointer (some ⟨rr,0,none⟩):=by rw [ob _ i_ok,oa _ i_nx]; exact hit
  refine wp_seq (wp_cond_true gb (wp_skip ?_))
  simp only [Exit.then]
  refine wp_block (wp_seq (wp_region ?_))
  rw [show List.range (#[e0,e1,e2]:Array Oper).size = [0,1,2] from rfl,wpOps_cons]
  refine wpOp_plain (o:=e0) rfl ho.h0.1 ?_
  refine wp_val (execOp_entry ho.h0.2.1) (cv:=.tuple #[.int .i64 k,v]) (w':=w1) (by rw [show ab.eval (.tmp L.it) = .pointer (some ⟨rr,0,none⟩) from itb,← hit]; exact hen) ?_
  rw [ho.h0.2.2]
  obtain ⟨ac,f3,rc,gc,oc⟩:=putS rb hF q3 (.tuple #[.int .i64 k,v]) .any trivial
  rw [f3,wpOps_cons]
  refine wpOp_plain (o:=e1) rfl ho.h1.1 ?_
  refine wp_val (execOp_extract ho.h1.2.1) (cv:=.int .i64 k) (w':=w1) (by rw [show ac.eval (.tmp L.en) = .tuple #[.int .i64 k,v] from gc]; simp [Instr.extract]) ?_
  rw [ho.h1.2.2]
  obtain ⟨ad,f4,rd,gd,od⟩:=putS rc hF q4 (.int .i64 k) .any trivial
  rw [f4,wpOps_cons]
  refine wpOp_plain (o:=e2) rfl ho.h2.1 ?_
  refine wp_val (execOp_assign ho.h2.2.1) (cv:=.int .i64 k) (w':=w1) (by rw [show ad.eval (.tmp L.k1) = .int .i64 k from gd]; rfl) ?_
  rw [ho.h2.2.2]
  obtain ⟨ae,f5,re,ge,oe⟩:=putS rd hF q5 (.int .i64 k) (.d (.int .i64 k)) ⟨rfl,.int _ _⟩
  rw [f5]
  have ite:ae.tmps.getD L.it undef = .pointer (some ⟨rr,0,none⟩):=by rw [oe _ i_kk,od _ i_k1,oc _ i_en]; exact itb
  have hIe:=hput _ _ L.kk (.d (.int .i64 k)) m5 (hput _ _ L.k1 .any m4 (hput _ _ L.en .any m3 (hput _ _ L.ok .any m2 (hput _ _ L.nx .any m1 hI))))
  have hbk:((((((s.put (some L.nx) .any []).put (some L.ok) .any []).put (some L.en) .any []).put (some L.k1) .any []).put (some L.kk) (.d (.int .i64 k)) []).blk) = s.blk:=rfl
  have hkk:(((((s.put (some L.nx) .any []).put (some L.ok) .any []).put (some L.en) .any []).put (some L.k1) .any []).put (some L.kk) (.d (.int .i64 k)) []).get L.kk = .d (.int .i64 k):=by
   rw [put_get]; simp [updF]
  generalize ((((s.put (some L.nx) .any []).put (some L.ok) .any []).put (some L.en) .any []).put (some L.k1) .any []).put (some L.kk) (.d (.int .i64 k)) [] = se at re hIe hbk hkk
  obtain ⟨s',hev,hI'⟩:=hI2 _ se k (in64_wf hwf) hIe hlk hkk
  have hSe:Side w0 h se.blk hd rr:=by rw [hbk]; exact hS
  have hrl:rr < w1.heap.size:=hrg1.lt
  refine code_ok hC hm n sc cB se s' .normal ae w1 h hd _ (codeF_of (w0:=w0.now w1 rr L.it (.pointer (some ⟨rr,0,none⟩))) (fun d hd=>by simp [Base.now,hd]) sc cB hlow hno) hlow hev (re.now hSe ite) ?_
  intro a' w' h' hd' r'
  simp only [Ex.go,Exit.then,Exit.inBlock]
  have rB:=re.back hF r'
  obtain ⟨hS',hrr'⟩:=hSe.back hrl r'
  obtain ⟨ob',hob'⟩:=Option.isSome_iff_exists.1 hg
  have hg1:w1.heap[g]? = some ob':=re.hle g ob' hob'
  have hg2:h' g = some ob':=r'.h0le g ob' hob'
  have hg3:w'.heap[g]? = some ob':=r'.hle g ob' hg2
  refine ⟨h',hd',s',_,cnt',by omega,rB,?_,by rw [hg2]; rfl,ranges_to hrg1 (hg3.trans hg1.symm) hrr',hS',?_⟩
  ·have e:(fun z:Int=>(fun x:Lit=>left x && !x.sameKey (.int .i64 k)) (.int .i64 z)) = fun z=>left (.int .i64 z) && !decide (z = k):=by
    funext z
    simp only [key_same]
   rw [e]
   exact hI'
  ·exact r'.fixed L.it _ (by simp [Base.now])
theorem range_nil (hF:∀ t,w0.F t = none) (L:RLoop) (hlt:∀ t ∈ L.slots,t < nt) (hnd:(L.it :: L.slots).Nodup)
  {r1 r2 b0 b1:Nat} {oN oX e0 e1 e2:Oper} (ho:ROps L oN oX e0 e1 e2) {cB:Code}
  (Inv:(Int→Bool)→(Nat→V)→(Nat→Option Blk)→Prop) (hI1:∀ left fr bl fr',Inv left fr bl→(∀ t,t ∉ L.slots→fr' t = fr t)→Inv left fr' bl)
  {Q:Exit→Act→World→Prop} (hQ:∀ a w h hd (s:St),Rl nt w0 h0 s.get s.blk a w h hd→Inv (fun _=>false) s.get s.blk→Q .normal a w)
  {s:St} {itv:Value} (r:Rl nt w0 h0 s.get s.blk a w h hd) (hI:Inv (fun _=>false) s.get s.blk) (hit:a.tmps.getD L.it undef = itv) (hnx:∀ ty,(Instr.next itv false ty).run P w = .ok (.tuple #[.bool false]) w) :
  (Code.block b0 (.loop (.seq (.region r1 #[oN,oX] false) (.seq (.cond (.tmp L.ok) .skip (.exit b0)) (.block b1 (.seq (.region r2 #[e0,e1,e2] false) cB)))))).wp P Q a w:=by
 simp only [RLoop.slots,List.nodup_cons,List.mem_cons,List.not_mem_nil,or_false,not_or,List.nodup_nil,not_false_eq_true,and_true] at hnd
 have q1:L.nx < nt:=hlt _ (by simp [RLoop.slots])
 have q2:L.ok < nt:=hlt _ (by simp [RLoop.slots])
 have m1:L.nx ∈ L.slots:=by simp [RLoop.slots]
 have m2:L.ok ∈ L.slots:=by simp [RLoop.slots]
 have hput:∀ (left:Int→Bool) (s:St) (d:Nat) (v:V),d ∈ L.slots→Inv left s.get s.blk→Inv left (s.put (some d) v []).get (s.put (some d) v []).blk:=fun left s d v hd hI=>by
  rw [put_get,put_blk]
  refine hI1 left s.get s.blk _ hI fun t ht=>?_
  have:¬ some d = some t:=fun e=>ht (Option.some.inj e ▸ hd)
  simp only [updF,if_neg this]
 refine wp_block ?_
 refine wp_loopN (fun c a' w'=>c = 1 ∧ a' = a ∧ w' = w) (fun a w q=>by omega) ?_ 1 a w ⟨rfl,rfl,rfl⟩
 rintro c a' w' ⟨hc,rfl,rfl⟩
 refine wp_seq (wp_region ?_)
 rw [show List.range (#[oN,oX]:Array Oper).size = [0,1] from rfl,wpOps_cons]
 refine wpOp_plain (o:=oN) rfl ho.hN.1 ?_
 refine wp_val (execOp_next ho.hN.2.1) (cv:=.tuple #[.bool false]) (w':=w') (by rw [show a'.eval (.tmp L.it) = itv from hit]; exact hnx _) ?_
 rw [ho.hN.2.2]
 obtain ⟨aa,f1,ra,ga,oa⟩:=putS r hF q1 (.tuple #[.bool false]) .any trivial
 rw [f1,wpOps_cons]
 refine wpOp_plain (o:=oX) rfl ho.hX.1 ?_
 refine wp_val (execOp_extract ho.hX.2.1) (cv:=.bool false) (w':=w') (by rw [show aa.eval (.tmp L.nx) = .tuple #[.bool false] from ga]; simp [Instr.extract]) ?_
 rw [ho.hX.2.2]
 obtain ⟨ab,f2,rb,gb,ob⟩:=putS ra hF q2 (.bool false) .any trivial
 rw [f2]
 refine wp_seq (wp_cond_false gb (wp_exit ?_))
 simp only [Exit.then,Exit.inBlock,if_true]
 exact hQ _ _ _ _ _ rb (hput _ _ L.ok .any m2 (hput _ _ L.nx .any m1 hI))
def keyIn (l:List (Int × ML)) (k:Int):Bool:=l.any fun p=>decide (p.1 = k)
theorem has_inK (l:List (Int × ML)) (k:Int):Maps.has (encM l) (.int .i64 k) = keyIn l k:=by
 show (l.map eM).any (fun p=>p.1.sameKey (.int .i64 k)) = keyIn l k
 rw [List.any_map]
 unfold keyIn
 congr 1
 funext p
 exact key_same p.1 k
theorem Rl.weak {s s2:St} (r:Rl nt w0 h0 s.get s.blk a w h hd) (h1:∀ t,s2.get t = .any ∨ s2.get t = s.get t) (h2:s2.blk = s.blk):Rl nt w0 h0 s2.get s2.blk a w h hd:=by
 rw [h2]
 refine { r with frame:=fun t=>?_ }
 rcases h1 t with q | q
 ·rw [q]; trivial
 ·rw [q]; exact r.frame t
structure RSpec (ek0:Nat) (C:Nat→List D→Option D) (n m:Nat) (L:RLoop) (sc:SCode) (s s2:St):Prop where
 ex:∃ (ek:Nat) (l:List (Int × ML)) (Inv:(Int→Bool)→(Nat→V)→(Nat→Option Blk)→Prop),(frT m s).get m = .d (.mp ek l) ∧ (ek = ek0 ∨ ek = 2) ∧
  (∀ left fr bl fr',Inv left fr bl→(∀ t,t ∉ L.it :: L.slots→fr' t = fr t)→Inv left fr' bl) ∧
  (∀ left (s:St) (k:Int),in64 k→Inv left s.get s.blk→left k = true→s.get L.kk = .d (.int .i64 k)→∃ s',evalN C n sc s = some (.normal,s') ∧ Inv (fun z=>left z && !decide (z = k)) s'.get s'.blk) ∧
  Inv (fun k=>keyIn l k) (frT m s).get (frT m s).blk ∧
  ∀ s' : St,Inv (fun _=>false) s'.get s'.blk→(∀ t,s2.get t = .any ∨ s2.get t = s'.get t) ∧ s2.blk = s'.blk
theorem range_piece (hm:P.follows .mixedOrders = true) {T kT eT ek0:Nat} (hT:P.underlying T = some (.map kT eT)) (hkT:P.underlying kT = some (.int .i64)) (hE:P.underlying eT = some (kindT ek0)) (L:RLoop) {m:Nat} (hlt:∀ t ∈ L.it :: L.slots,t < nt) (hnd:(L.it :: L.slots).Nodup)
  {r0 r1 r2 b0 b1:Nat} {rops:Array Oper} {pre:List SOper} {x:SOper} (hpre:mapM' (lowOper P nt rops) rops.toList = some (pre.map SOper.bare ++ [x])) {oR:Oper} (hR:rops[pre.length]? = some oR ∧ oR.guard = none ∧ oR.op = .range T (.tmp m) ∧ oR.dst = some L.it)
  {oN oX e0 e1 e2:Oper} (ho:ROps L oN oX e0 e1 e2) {cB:Code} {sc:SCode} (hlow:lowC P nt cB = some sc.bare) (hno:noDst L.it sc = true)
  {g:St→Option St} (hg:∀ C n s s2,g s = some s2→RSpec ek0 C n m L sc s s2) :
  BodyOk P nt (.seq (.region r0 rops false) (.block b0 (.loop (.seq (.region r1 #[oN,oX] false) (.seq (.cond (.tmp L.ok) .skip (.exit b0)) (.block b1 (.seq (.region r2 #[e0,e1,e2] false) cB))))))) (.seq (.region pre none) (.hand g)):=by
 intro C hC n w0 h0 s s' ex a w h hd Q hF he r hQ
 have hlt' : ∀ t ∈ L.slots,t < nt:=fun t ht=>hlt t (List.mem_cons_of_mem _ ht)
 rw [evalN] at he
 cases h1:runOps C pre s with
 | none=>simp [evalN,runRegion,h1] at he
 | some s1 =>
  have e1:evalN C n (.region pre none) s = some (.normal,s1):=by simp [evalN,runRegion,h1]
  rw [e1] at he
  simp only [evalN] at he
  cases h2:g s1 with
  | none=>rw [h2] at he; cases he
  | some s2 =>
   rw [h2] at he
   cases he
   obtain ⟨⟨ek,l,Inv,hmp,hek,hI1,hI2,hI0,hI3⟩⟩:=hg C n s1 s' h2
   have hI1' : ∀ left fr bl fr',Inv left fr bl→(∀ t,t ∉ L.slots→fr' t = fr t)→Inv left fr' bl:=fun left fr bl fr' q1 q2=>hI1 left fr bl fr' q1 fun t ht=>q2 t fun q=>ht (List.mem_cons_of_mem _ q)
   have hlen:rops.size = pre.length + 1:=by
    have:=(mapM'_some hpre).1
    simpa using this
   have hOF:OpsF w0 rops:=fun _ _ d _=>hF d
   obtain ⟨ps,hps⟩:=runOps_T h1
   have hst:=runOpsT_steps pre (fun i=>ps.getD i ([],[])) (k:=0) (fun i=>by simp) (fun i _=>by simp) hps
   have e0' : (List.range pre.length).map (0 + ·) = List.range pre.length:=by simp
   rw [e0'] at hst
   refine wp_seq (wp_region ?_)
   rw [hlen,List.range_succ]
   refine wpOps_okT hC hOF hpre _ (s':=s1.fn) ?_ _ s.fn a w h hd r hst
   intro a1 w1 h1 hd1 r1
   replace r1:Rl nt w0 h0 s1.get s1.blk a1 w1 h1 hd1:=r1
   obtain ⟨h2,r2⟩:=frT_ok r1 m
   have hQ' : ∀ a w h hd (s2:St),Rl nt w0 h0 s2.get s2.blk a w h hd→Inv (fun _=>false) s2.get s2.blk→Q .normal a w:=fun a w h hd s2 q1 q2=>by
    obtain ⟨q3,q4⟩:=hI3 s2 q2
    exact hQ _ _ h hd (q1.weak q3 q4)
   have hfm:=r2.frame m
   rw [hmp] at hfm
   obtain ⟨_,hrd⟩ : D.atom _ = true ∧ Reads h2 (a1.tmps.getD m undef) (.mp ek l):=hfm
   generalize hmv:a1.tmps.getD m undef = mv at hrd
   rw [wpOps_cons]
   refine wpOp_plain hR.1 hR.2.1 ?_
   have hIp:Inv (fun k=>keyIn l k) ((frT m s1).put (some L.it) .any []).get ((frT m s1).put (some L.it) .any []).blk:=by
    rw [put_get,put_blk]
    refine hI1 _ _ _ _ hI0 fun t ht=>?_
    have:¬ some L.it = some t:=fun e=>ht (by rw [Option.some.inj e]; exact List.mem_cons_self ..)
    simp only [updF,if_neg this]
   have hexec:∀ {cv:Value} {w2:World},(Instr.range T mv).run P w1 = .ok cv w2→∀ {K:Act→World→Prop} {Q:Exit→Act→World→Prop},K (a1.put oR.dst cv) w2→oR.wp P a1 w1 K Q:=fun {cv w2} hrun {K Q} hK =>
    wp_val (s:=Instr.range T (a1.eval (.tmp m))) (by simp [execOp,hR.2.2.1]) (by rw [show a1.eval (.tmp m) = mv from hmv]; exact hrun) hK
   cases hrd with
   | mp0 =>
    refine hexec (run_range_nilMap w1 T kT eT hT) ?_
    rw [hR.2.2.2]
    have rw1:=r2.side (World.grownBy_alloc w1 (.mapIter none 0 #[] 0) none) (fun g hg=>by cases hg)
    obtain ⟨aa,f1,ra,ga,oa⟩:=putS rw1 hF (hlt L.it (List.mem_cons_self ..)) (.pointer (some ⟨w1.heap.size,0,none⟩)) .any trivial
    rw [f1]
    exact range_nil hF L hlt' hnd ho Inv hI1' hQ' ra hIp ga fun ty=>run_next_nilMap w1 ty 0 0 #[]
   | mp gm _ _ hMI =>
    have hek' : ek = ek0:=by
     rcases hek with q | q
     ·exact q
     ·rcases hMI.1 with z | z <;> omega
    subst hek'
    have hMw:MapIs w1.heap[gm]? ek l:=hMI.le r2.hle
    obtain ⟨w4,g4,g5,g6,g7⟩:=(hMw.owns hkT hE).range (int_keyed hkT) hT
    refine hexec g4 ?_
    rw [hR.2.2.2]
    have rw1:=r2.side g6 (fun g hg=>by cases hg)
    obtain ⟨aa,f1,ra,ga,oa⟩:=putS rw1 hF (hlt L.it (List.mem_cons_self ..)) (.pointer (some ⟨w1.heap.size,0,none⟩)) .any trivial
    rw [f1]
    have hSn:Side w0 h2 (frT m s1).blk hd1 w1.heap.size:=Side.new r2 (Nat.le_refl _)
    have hgs:(h2 gm).isSome = true:=by
     obtain ⟨_,es,clock,q,_⟩:=hMI
     rw [q]; rfl
    refine range_loop hC hm hkT hF L hlt' hnd ho hlow hno Inv hI1' hI2 hQ' aa w4 h2 hd1 _ _ _ ra ?_ hgs g5 hSn ga
    have e:(fun k:Int=>Maps.has (encM l) (.int .i64 k)) = fun k=>keyIn l k:=by funext k; exact has_inK l k
    rw [e]
    exact hIp
def subG (l m:List (Int × ML)):List (Int × ML):=m.filter fun p=>!keyIn l p.1
def deadL (dead:List Nat) (fr:List (Nat × V)):List (Nat × V):=dead.map (fun t=>(t,V.any)) ++ fr
def handDel (ek0 m inn:Nat) (dead:List Nat) (s:St):Option St:=match (frT m s).get m,(frT m s).get inn with
 | .d (.mp ek l),.mp id=>match (frT m s).blk id with
  | some (.mp ek' l2)=>if (ek = ek0 ∨ ek = 2) ∧ ek' = ek0 then some ⟨deadL dead (frT m s).fr,(id,some (.mp ek' (subG l l2))) :: (frT m s).bl⟩ else none
  | _=>none
 | .d (.mp ek l),.d (.mp 2 [])=>if ek = ek0 ∨ ek = 2 then some ⟨deadL dead (frT m s).fr,(frT m s).bl⟩ else none
 | _,_=>none
def keysIn (l:List (Int × ML)) (n:Nat):Bool:=l.all fun p=>decide (0 ≤ p.1) && decide (p.1.toNat < n)
def setKs (l:List (Int × ML)) (rows:List (List D)):List (List D):=rows.mapIdx fun i row=>if keyIn l (i:Int) = true then [.bool true] else row
def handSet (ek0 m out:Nat) (dead:List Nat) (s:St):Option St:=match (frT m s).get m,(frT m s).get out with
 | .d (.mp ek l),.own id ver=>match (frT m s).blk id with
  | some (.rows v e size rows)=>if (ek = ek0 ∨ ek = 2) ∧ ver = v ∧ size = 1 ∧ keysIn l rows.length = true ∧ sized 1 rows = true then some ⟨deadL dead (frT m s).fr,(id,some (.rows v e size (setKs l rows))) :: (frT m s).bl⟩ else none
  | _=>none
 | _,_=>none
theorem deadL_get (dead:List Nat) (s:St) (b:List (Nat × Option Blk)) (t:Nat):(⟨deadL dead s.fr,b⟩ : St).get t = if t ∈ dead then .any else s.get t:=by
 show lk (dead.map (fun t=>(t,V.any)) ++ s.fr) .any t = _
 rw [lk_app,lk_map (fun _=>V.any) _ t dead]
 split
 ·rfl
 ·rfl
theorem put_getN (s:St) (v:V) (wr:List (Nat × Option Blk)):(s.put none v wr).get = s.get:=rfl
theorem put_getS (s:St) (d:Nat) (v:V) (wr:List (Nat × Option Blk)) (t:Nat):(s.put (some d) v wr).get t = if t = d then v else s.get t:=rfl
theorem put_blkW (s:St) (dst:Option Nat) (v:V) (wr:List (Nat × Option Blk)):(s.put dst v wr).blk = updB s.blk wr:=by
 funext i
 show lk (wr ++ s.bl) none i = lk wr (s.blk i) i
 exact lk_app wr s.bl none i
theorem updB_twice (bl:Nat→Option Blk) (id:Nat) (x y:Option Blk):updB (updB bl [(id,x)]) [(id,y)] = updB bl [(id,y)]:=by
 funext q; simp only [updB,lk]; split <;> rfl
theorem updB_same (bl:Nat→Option Blk) (id:Nat) (x:Option Blk) (h:bl id = x):updB bl [(id,x)] = bl:=by
 funext q
 by_cases e:q = id
 ·subst e; rw [updB_self,h]
 ·rw [updB_ne _ _ e]
theorem runOps_cons {C:Nat→List D→Option D} {o:SOper} {l:List SOper} {s s' : St} {r:Option St} (h:runOp C o s = some s') (h2:runOps C l s' = r):runOps C (o :: l) s = r:=by
 simp only [runOps,h]; exact h2
theorem runOp_plain {C:Nat→List D→Option D} {dst:Option Nat} {op:SOp} {site:Nat} {s:St} {v:V} {wr:List (Nat × Option Blk)} (h:aop C site (evo s.get) s.blk op = some (v,wr)):runOp C ⟨dst,op,none,site⟩ s = some (s.put dst v wr):=by
 unfold runOp
 rw [show (⟨dst,op,none,site⟩ : SOper).wants s.get = .run from rfl]
 simp only [h]
theorem sub_keep (l m:List (Int × ML)) (left:Int→Bool) (h:∀ k,left k = keyIn l k):m.filter (fun p=>!(keyIn l p.1 && !left p.1)) = m:=by
 rw [List.filter_eq_self]
 intro p _
 rw [h]; cases keyIn l p.1 <;> rfl
theorem sub_step (l m:List (Int × ML)) (left:Int→Bool) (k:Int) (hk:keyIn l k = true):delG k (m.filter fun p=>!(keyIn l p.1 && !left p.1)) = m.filter fun p=>!(keyIn l p.1 && !(left p.1 && !decide (p.1 = k))):=by
 unfold delG
 rw [List.filter_filter]
 refine List.filter_congr fun p _=>?_
 by_cases e:p.1 = k
 ·simp [e,hk]
 ·simp [e]
theorem handDel_ok {ek0 m inn d1 d2 s1 s2:Nat} {dead:List Nat} {L:RLoop} (hin:∀ t ∈ d1 :: d2 :: L.it :: L.slots,t ∈ dead) (hn:inn ∉ dead) (h12:d1 ≠ d2) (hk1:L.kk ≠ d1) {C:Nat→List D→Option D} {n:Nat} {s z:St}
  (h:handDel ek0 m inn dead s = some z):RSpec ek0 C n m L (.region [⟨some d1,.move (.t inn),none,s1⟩,⟨some d2,.move (.t L.kk),none,s2⟩,⟨none,.mdel ek0 (.t d1) (.t d2),none,0⟩] none) s z:=by
 have hne:∀ t ∈ dead,inn ≠ t:=fun t ht e=>hn (e ▸ ht)
 have hnd1:inn ≠ d1:=hne _ (hin _ (by simp))
 unfold handDel at h
 split at h
 ·rename_i ek l id hm hi
  split at h
  ·rename_i ek' l2 hb
   split at h
   ·rename_i hc
    obtain ⟨hek,rfl⟩:=hc
    cases h
    refine ⟨ek,l,fun left fr bl=>(∀ k,left k = true→keyIn l k = true) ∧ (∀ t,t ∉ dead→fr t = (frT m s).get t) ∧ bl = updB (frT m s).blk [(id,some (.mp ek' (l2.filter fun p=>!(keyIn l p.1 && !left p.1))))],hm,hek,?_,?_,?_,?_⟩
    ·rintro left fr bl fr' ⟨q0,q1,q2⟩ q3
     refine ⟨q0,fun t ht=>?_,q2⟩
     rw [q3 t fun q=>ht (hin t (List.mem_cons_of_mem _ (List.mem_cons_of_mem _ q)))]
     exact q1 t ht
    ·rintro left s' k hk64 ⟨q0,q1,q2⟩ hk hkk
     have hinn:s'.get inn = .mp id:=(q1 inn hn).trans hi
     refine ⟨((s'.put (some d1) (.mp id) []).put (some d2) (.d (.int .i64 k)) []).put none .any [(id,some (.mp ek' (delG k (l2.filter fun p=>!(keyIn l p.1 && !left p.1)))))],?_,?_⟩
     ·have:runOps C [⟨some d1,.move (.t inn),none,s1⟩,⟨some d2,.move (.t L.kk),none,s2⟩,⟨none,.mdel ek' (.t d1) (.t d2),none,0⟩] s' = some (((s'.put (some d1) (.mp id) []).put (some d2) (.d (.int .i64 k)) []).put none .any [(id,some (.mp ek' (delG k (l2.filter fun p=>!(keyIn l p.1 && !left p.1)))))]):=by
       refine runOps_cons (runOp_plain (v:=.mp id) (wr:=[]) (by simp only [aop,evo,hinn])) ?_
       refine runOps_cons (runOp_plain (v:=.d (.int .i64 k)) (wr:=[]) (by simp only [aop,evo,put_getS,if_neg hk1,hkk])) ?_
       refine runOps_cons (runOp_plain (v:=.any) (wr:=[(id,some (.mp ek' (delG k (l2.filter fun p=>!(keyIn l p.1 && !left p.1)))))]) (by
        simp only [aop,evo,put_getS,if_neg h12,if_true,put_blkW,updB_nil,keyM,if_pos hk64,q2,updB_self])) ?_
       rfl
      simp only [evalN,runRegion,this]
     ·refine ⟨fun k' hk'=>q0 k' (by simp only [Bool.and_eq_true] at hk'; exact hk'.1),fun t ht=>?_,?_⟩
      ·have nd:∀ d,d ∈ dead→¬ t = d:=fun d hd e=>ht (e ▸ hd)
       rw [put_getN,put_getS,if_neg (nd d2 (hin d2 (by simp))),put_getS,if_neg (nd d1 (hin d1 (by simp)))]
       exact q1 t ht
      ·rw [put_blkW,put_blkW,put_blkW,updB_nil,updB_nil,q2,updB_twice,sub_step _ _ _ _ (q0 k hk)]
    ·refine ⟨fun k q=>q,fun t _=>rfl,?_⟩
     rw [sub_keep l l2 _ fun _=>rfl,updB_same _ _ _ hb]
    ·rintro s' ⟨_,q1,q2⟩
     refine ⟨fun t=>?_,?_⟩
     ·rw [deadL_get]
      split
      ·exact .inl rfl
      ·rename_i ht; exact .inr (q1 t ht).symm
     ·rw [q2]
      funext i
      show lk ((id,some (Blk.mp ek' (subG l l2))) :: (frT m s).bl) none i = _
      have:(l2.filter fun p=>!(keyIn l p.1 && !(fun _=>false:Int→Bool) p.1)) = subG l l2:=List.filter_congr fun p _=>by simp
      rw [this]
      rfl
   ·cases h
  ·cases h
 ·rename_i ek l hm hi
  split at h
  ·rename_i hek
   cases h
   refine ⟨ek,l,fun left fr bl=>(∀ t,t ∉ dead→fr t = (frT m s).get t) ∧ bl = (frT m s).blk,hm,hek,?_,?_,⟨fun t _=>rfl,rfl⟩,?_⟩
   ·rintro left fr bl fr' ⟨q1,q2⟩ q3
    refine ⟨fun t ht=>?_,q2⟩
    rw [q3 t fun q=>ht (hin t (List.mem_cons_of_mem _ (List.mem_cons_of_mem _ q)))]
    exact q1 t ht
   ·rintro left s' k hk64 ⟨q1,q2⟩ hk hkk
    have hinn:s'.get inn = .d (.mp 2 []):=(q1 inn hn).trans hi
    refine ⟨((s'.put (some d1) (.d (.mp 2 [])) []).put (some d2) (.d (.int .i64 k)) []).put none .any [],?_,?_⟩
    ·have:runOps C [⟨some d1,.move (.t inn),none,s1⟩,⟨some d2,.move (.t L.kk),none,s2⟩,⟨none,.mdel ek0 (.t d1) (.t d2),none,0⟩] s' = some (((s'.put (some d1) (.d (.mp 2 [])) []).put (some d2) (.d (.int .i64 k)) []).put none .any []):=by
      refine runOps_cons (runOp_plain (v:=.d (.mp 2 [])) (wr:=[]) (by simp only [aop,evo,hinn])) ?_
      refine runOps_cons (runOp_plain (v:=.d (.int .i64 k)) (wr:=[]) (by simp only [aop,evo,put_getS,if_neg hk1,hkk])) ?_
      refine runOps_cons (runOp_plain (v:=.any) (wr:=[]) (by
       simp only [aop,evo,put_getS,if_neg h12,if_true,keyM,if_pos hk64])) ?_
      rfl
     simp only [evalN,runRegion,this]
    ·refine ⟨fun t ht=>?_,?_⟩
     ·have nd:∀ d,d ∈ dead→¬ t = d:=fun d hd e=>ht (e ▸ hd)
      rw [put_getN,put_getS,if_neg (nd d2 (hin d2 (by simp))),put_getS,if_neg (nd d1 (hin d1 (by simp)))]
      exact q1 t ht
     ·rw [put_blkW,put_blkW,put_blkW,updB_nil,updB_nil,updB_nil,q2]
   ·rintro s' ⟨q1,q2⟩
    refine ⟨fun t=>?_,q2.symm⟩
    rw [deadL_get]
    split
    ·exact .inl rfl
    ·rename_i ht; exact .inr (q1 t ht).symm
  ·cases h
 ·cases h
def setKsL (l:List (Int × ML)) (left:Int→Bool) (rows:List (List D)):List (List D):=rows.mapIdx fun i row=>if (keyIn l (i:Int) && !left (i:Int)) = true then [.bool true] else row
theorem sized_at {n:Nat} {rows:List (List D)} (h:sized n rows = true) (i:Nat) (row:List D) (hr:rows[i]? = some row):row.length = n:=by
 have:=List.all_eq_true.1 h row (List.mem_of_getElem? hr)
 simpa using this
theorem setKsL_step {l:List (Int × ML)} {left:Int→Bool} {rows:List (List D)} {k:Int} (h0:0 ≤ k) (hk:keyIn l k = true):(setKsL l left rows).set k.toNat [.bool true] = setKsL l (fun z=>left z && !decide (z = k)) rows:=by
 apply List.ext_getElem?
 intro i
 rw [List.getElem?_set]
 unfold setKsL
 simp only [List.length_mapIdx,List.getElem?_mapIdx]
 by_cases e:k.toNat = i
 ·have e2:(i:Int) = k:=by omega
  rw [if_pos e,e2,hk]
  by_cases hi:k.toNat < rows.length
  ·rw [if_pos hi,List.getElem?_eq_getElem (by omega)]
   simp
  ·rw [if_neg hi,List.getElem?_eq_none (by omega)]
   rfl
 ·have e2:¬ (i:Int) = k:=by omega
  rw [if_neg e]
  simp [e2]
theorem handSet_ok {ek0 m out d1 d2 da s1 s2 s3:Nat} {dead:List Nat} {L:RLoop} (hin:∀ t ∈ da :: d1 :: d2 :: L.it :: L.slots,t ∈ dead) (hn:out ∉ dead) (h12:d1 ≠ d2) (hk1:L.kk ≠ d1) {C:Nat→List D→Option D} {n:Nat} {s z:St}
  (h:handSet ek0 m out dead s = some z):RSpec ek0 C n m L (.region [⟨some d1,.move (.t out),none,s1⟩,⟨some d2,.move (.t L.kk),none,s2⟩,⟨some da,.indexAddr 1 (.t d1) (.t d2),none,s3⟩,⟨none,.store 1 (.t da) (.c (.d (.bool true))),none,0⟩] none) s z:=by
 unfold handSet at h
 split at h
 ·rename_i ek l id ver hm hi
  split at h
  ·rename_i v e size rows hb
   split at h
   ·rename_i hc
    obtain ⟨hek,rfl,rfl,hks,hsz⟩:=hc
    cases h
    have hkeys:∀ k,keyIn l k = true→0 ≤ k ∧ k.toNat < rows.length:=fun k hk=>by
     obtain ⟨p,hp,hpk⟩:=List.any_eq_true.1 hk
     have:=List.all_eq_true.1 hks p hp
     simp only [Bool.and_eq_true,decide_eq_true_eq] at this hpk
     subst hpk
     exact this
    refine ⟨ek,l,fun left fr bl=>(∀ k,left k = true→keyIn l k = true) ∧ (∀ t,t ∉ dead→fr t = (frT m s).get t) ∧ bl = updB (frT m s).blk [(id,some (.rows ver e 1 (setKsL l left rows)))],hm,hek,?_,?_,?_,?_⟩
    ·rintro left fr bl fr' ⟨q0,q1,q2⟩ q3
     refine ⟨q0,fun t ht=>?_,q2⟩
     rw [q3 t fun q=>ht (hin t (List.mem_cons_of_mem _ (List.mem_cons_of_mem _ (List.mem_cons_of_mem _ q))))]
     exact q1 t ht
    ·rintro left s' k hk64 ⟨q0,q1,q2⟩ hk hkk
     have hinn:s'.get out = .own id ver:=(q1 out hn).trans hi
     obtain ⟨k0,k1⟩:=hkeys k (q0 k hk)
     have hlen:(setKsL l left rows).length = rows.length:=by simp [setKsL]
     have hrow:∃ row,(setKsL l left rows)[k.toNat]? = some row ∧ row.length = 1:=by
      have h1:rows[k.toNat]? = some rows[k.toNat]:=List.getElem?_eq_getElem k1
      refine ⟨if (keyIn l ((k.toNat:Nat):Int) && !left ((k.toNat:Nat):Int)) = true then [.bool true] else rows[k.toNat],by simp [setKsL,h1],?_⟩
      split
      ·rfl
      ·exact sized_at hsz _ _ h1
     obtain ⟨row,hr1,hr2⟩:=hrow
     have hset:setAt row 0 [D.bool true] = [D.bool true]:=by
      match row,hr2 with
      | [x],_=>rfl
     refine ⟨(((s'.put (some d1) (.own id ver) []).put (some d2) (.d (.int .i64 k)) []).put (some da) (.orow id ver k.toNat 0) []).put none .any [(id,some (.rows ver e 1 ((setKsL l left rows).set k.toNat [.bool true])))],?_,?_⟩
     ·have:runOps C [⟨some d1,.move (.t out),none,s1⟩,⟨some d2,.move (.t L.kk),none,s2⟩,⟨some da,.indexAddr 1 (.t d1) (.t d2),none,s3⟩,⟨none,.store 1 (.t da) (.c (.d (.bool true))),none,0⟩] s' = some ((((s'.put (some d1) (.own id ver) []).put (some d2) (.d (.int .i64 k)) []).put (some da) (.orow id ver k.toNat 0) []).put none .any [(id,some (.rows ver e 1 ((setKsL l left rows).set k.toNat [.bool true])))]):=by
       refine runOps_cons (runOp_plain (v:=.own id ver) (wr:=[]) (by simp only [aop,evo,hinn])) ?_
       refine runOps_cons (runOp_plain (v:=.d (.int .i64 k)) (wr:=[]) (by simp only [aop,evo,put_getS,if_neg hk1,hkk])) ?_
       refine runOps_cons (runOp_plain (v:=.orow id ver k.toNat 0) (wr:=[]) (by
        simp only [aop,evo,put_getS,if_neg h12,if_true,put_blkW,updB_nil,q2,updB_self,hlen]
        rw [if_pos ⟨trivial,trivial,k0,k1⟩])) ?_
       refine runOps_cons (runOp_plain (v:=.any) (wr:=_) (by
        simp only [aop,evo,put_getS,if_true,put_blkW,updB_nil,q2,updB_self,hr1,V.cells,mapM',toD1,toD0]
        rw [if_pos ⟨rfl,by rw [hr2]; exact Nat.le_refl _,rfl⟩,hset])) ?_
       rfl
      simp only [evalN,runRegion,this]
     ·refine ⟨fun k' hk'=>q0 k' (by simp only [Bool.and_eq_true] at hk'; exact hk'.1),fun t ht=>?_,?_⟩
      ·have nd:∀ d,d ∈ dead→¬ t = d:=fun d hd e=>ht (e ▸ hd)
       rw [put_getN,put_getS,if_neg (nd da (hin da (by simp))),put_getS,if_neg (nd d2 (hin d2 (by simp))),put_getS,if_neg (nd d1 (hin d1 (by simp)))]
       exact q1 t ht
      ·rw [put_blkW,put_blkW,put_blkW,put_blkW,updB_nil,updB_nil,updB_nil,q2,updB_twice,setKsL_step k0 (q0 k hk)]
    ·refine ⟨fun k q=>q,fun t _=>rfl,?_⟩
     have:setKsL l (fun k=>keyIn l k) rows = rows:=by
      apply List.ext_getElem?
      intro i
      unfold setKsL
      rw [List.getElem?_mapIdx]
      have:(keyIn l (i:Int) && !keyIn l (i:Int)) = false:=by cases keyIn l (i:Int) <;> rfl
      simp [this]
     rw [this,updB_same _ _ _ hb]
    ·rintro s' ⟨_,q1,q2⟩
     refine ⟨fun t=>?_,?_⟩
     ·rw [deadL_get]
      split
      ·exact .inl rfl
      ·rename_i ht; exact .inr (q1 t ht).symm
     ·rw [q2]
      funext i
      have:setKsL l (fun _=>false) rows = setKs l rows:=by
       unfold setKsL setKs
       congr 1
       funext i row
       simp
      rw [this]
      rfl
   ·cases h
  ·cases h
 ·cases h
end
def cSub:Code→Code
 | .block _ c=>c
 | .loop c=>c
 | c=>c
section
variable {P:Program} {nt:Nat}
theorem BodyOk.cond {co:Operand} {o:Opd} {c d:Code} {x y:SCode} (h0:lowX co = some o) (h1:BodyOk P nt c x) (h2:BodyOk P nt d y):BodyOk P nt (.cond co c d) (.cond o x y):=by
 intro C hC n w0 h0' s s' ex a w h hd Q hF he r hQ
 have hc:=lowX_ok r.frame h0
 simp only [evalN] at he
 split at he
 ·rename_i hb
  rw [hb] at hc
  exact wp_cond_true (inv_bool hc) (h1 C hC n w0 h0' s s' ex a w h hd Q hF he r hQ)
 ·rename_i hb
  rw [hb] at hc
  exact wp_cond_false (inv_bool hc) (h2 C hC n w0 h0' s s' ex a w h hd Q hF he r hQ)
 ·cases he
theorem BodyOk.block {id:Nat} {c:Code} {x:SCode} (h1:BodyOk P nt c x):BodyOk P nt (.block id c) (.block id x):=by
 intro C hC n w0 h0 s s' ex a w h hd Q hF he r hQ
 refine wp_block ?_
 simp only [evalN] at he
 split at he
 ·rename_i id'' s1 he1
  refine h1 C hC n w0 h0 s s1 (.exit id'') a w h hd _ hF he1 r fun a' w' h' hd' r'=>?_
  simp only [Ex.go,Exit.inBlock]
  split at he
  ·rename_i hid
   cases he
   rw [if_pos hid]
   exact hQ _ _ _ _ r'
  ·rename_i hid
   cases he
   rw [if_neg hid]
   exact hQ _ _ _ _ r'
 ·rename_i hne
  refine h1 C hC n w0 h0 s s' ex a w h hd _ hF he r fun a' w' h' hd' r'=>?_
  cases ex with
  | normal=>exact hQ _ _ _ _ r'
  | exit id=>exact absurd he (hne _ _)
  | ret=>exact hQ _ _ _ _ r'
theorem BodyOk.loop {c:Code} {x:SCode} (h1:BodyOk P nt c x):BodyOk P nt (.loop c) (.loop x):=by
 intro C hC n w0 h0 s s' ex a w h hd Q hF he r hQ
 simp only [evalN] at he
 refine wp_loopN (fun k a w=>∃ s h hd,loopN (evalN C n x) k s = some (ex,s') ∧ Rl nt w0 h0 s.get s.blk a w h hd) (fun a w ⟨s,h,hd,q,_⟩=>by simp [loopN] at q) ?_ n a w ⟨s,h,hd,he,r⟩
 rintro k a w ⟨s,h,hd,q,r⟩
 simp only [loopN] at q
 split at q
 ·rename_i s1 he1
  exact h1 C hC n w0 h0 s s1 .normal a w h hd _ hF he1 r fun a' w' h' hd' r'=>⟨s1,h',hd',q,r'⟩
 ·rename_i hne
  refine h1 C hC n w0 h0 s s' ex a w h hd _ hF q r fun a' w' h' hd' r'=>?_
  cases ex with
  | normal=>exact absurd q (hne _)
  | exit id=>exact hQ _ _ _ _ r'
  | ret=>exact hQ _ _ _ _ r'
end
end Vm
end Go.Proofs.Ytmekbfccmnjdcaa
set_option linter.unusedVariables false
set_option linter.unusedSimpArgs false
namespace Go.Proofs.Ytmekbfccmnjdcaa
namespace Vm
open Go.RowKit
abbrev MB:=List (Int × Bool)
def mB (m:MB):List (Int × ML):=m.map fun p=>(p.1,ML.b p.2)
def eB:Option MB→D
 | none=>.mp 2 []
 | some m=>.mp 1 (mB m)
def inM (m:MB) (k:Int):Bool:=m.any fun p=>decide (p.1 = k)
def getO (k:Int) (z:Bool):Option MB→Bool
 | none=>z
 | some m=>getG k z m
def subM (l m:MB):MB:=m.filter fun p=>!inM l p.1
def subO (l:Option MB) (m:MB):MB:=match l with
 | none=>m
 | some l=>subM l m
def keysM (l:MB) (n:Nat):Bool:=l.all fun p=>decide (0 ≤ p.1) && decide (p.1.toNat < n)
def markM (l:MB) (xs:List Bool):List Bool:=xs.mapIdx fun i b=>if inM l (i:Int) = true then true else b
def keysO:Option MB→List Int
 | none=>[]
 | some m=>m.map (·.1)
def cMB (x:Option MB):List D:=[eB x]
theorem mB_ins (k:Int) (b:Bool):∀ m:MB,insG k (ML.b b) (mB m) = mB (insG k b m)
 | []=>rfl
 | y :: r=>by
  show (if k < y.1 then _ else _) = mB (if k < y.1 then _ else _)
  split
  ·rfl
  ·show (y.1,ML.b y.2) :: insG k (.b b) (mB r) = (y.1,ML.b y.2) :: mB (insG k b r)
   rw [mB_ins k b r]
theorem mB_del (k:Int) (m:MB):delG k (mB m) = mB (delG k m):=by
 unfold delG mB
 rw [List.filter_map]
 rfl
theorem mB_put (k:Int) (b:Bool) (m:MB):putG k (ML.b b) (mB m) = mB (putG k b m):=by
 unfold putG
 rw [mB_del,mB_ins]
theorem mB_get (k:Int) (z:Bool) (m:MB):getG k (ML.b z) (mB m) = .b (getG k z m):=by
 unfold getG mB
 rw [List.find?_map]
 have e:(fun p:Int × ML=>decide (p.1 = k)) ∘ (fun p:Int × Bool=>(p.1,ML.b p.2)) = fun p:Int × Bool=>decide (p.1 = k):=rfl
 rw [e]
 cases m.find? fun p=>decide (p.1 = k) <;> rfl
theorem mB_len (m:MB):(mB m).length = m.length:=List.length_map ..
theorem mB_in (l:MB) (k:Int):keyIn (mB l) k = inM l k:=by
 unfold keyIn mB inM
 rw [List.any_map]
 rfl
theorem mB_sub (l m:MB):subG (mB l) (mB m) = mB (subM l m):=by
 unfold subG subM
 simp only [mB_in]
 show (m.map _).filter _ = _
 rw [List.filter_map]
 rfl
theorem mB_sub0 (m:MB):subG [] (mB m) = mB m:=by
 unfold subG keyIn
 simp
theorem mB_keys (l:MB) (n:Nat):keysIn (mB l) n = keysM l n:=by
 unfold keysIn mB keysM
 rw [List.all_map]
 rfl
theorem mB_set (l:MB) (xs:List Bool):setKs (mB l) (cM cB xs) = cM cB (markM l xs):=by
 unfold setKs markM cM
 apply List.ext_getElem?
 intro i
 simp only [List.getElem?_mapIdx,List.getElem?_map,mB_in]
 cases xs[i]? with
 | none=>rfl
 | some b =>
  simp only [Option.map_some]
  cases inM l (i:Int) <;> rfl
theorem dec_mB (m:MB):newBlk 1 0 (encR (mB m)) = .mp 1 (mB m):=by
 unfold newBlk
 rw [if_pos rfl,dec_enc]
theorem isEmpty_or (m:MB):(mB m).isEmpty = true ∨ (1:Nat) = 1:=.inr rfl
section
variable {β:Type} {T:Tbl} {d:Nat} {fr:List (Nat × V)} {bl:List (Nat × Option Blk)} {k:V→Option β} {kw:V→List (Nat × Option Blk)→Option β}
theorem opK_mkmap (ek:Nat):opK T d (.mkmap ek) fr bl k kw = blkK bl d fun b=>noneK b (kw (.mp d) [(d,some (.mp ek []))]):=by
 unfold opK blkK
 simp only [aop]
 cases lk bl none d <;> rfl
theorem opK_mkmapB:opK T d (.mkmap 1) fr bl k kw = blkK bl d fun b=>noneK b (kw (.mp d) [(d,some (.mp 1 (mB [])))]):=opK_mkmap 1
def mputK (ek:Nat) (m a x:V) (bl:List (Nat × Option Blk)) (k:V→Option β) (kw:V→List (Nat × Option Blk)→Option β):Option β:=ansK (match m,keyM a,mlOf x with
  | .mp id,some n,some x=>match lk bl none id with
   | some (.mp ek' l)=>if x.kind = ek ∧ ek' = ek ∧ l.length < 1000000000000 then some (.any,[(id,some (.mp ek (putG n x l)))]) else none
   | _=>none
  | _,_,_=>none) k kw
theorem opK_mput (ek:Nat) (m a x:Opd):opK T d (.mput ek m a x) fr bl k kw = opdK fr m fun mv=>opdK fr a fun av=>opdK fr x fun xv=>mputK ek mv av xv bl k kw:=by
 rw [opK_ans]
 rfl
def mputBK (n:Int) (b:Bool) (id:Nat) (y:Option Blk) (kw:V→List (Nat × Option Blk)→Option β):Option β:=match y with
 | some (.mp 1 l)=>if l.length < 1000000000000 then kw .any [(id,some (.mp 1 (putG n (.b b) l)))] else none
 | _=>none
theorem mputK_own (id:Nat) (n:Int) (b:Bool):mputK 1 (.mp id) (.d (.int .i64 n)) (.d (.bool b)) bl k kw = if in64 n then blkK bl id fun y=>mputBK n b id y kw else none:=by
 unfold mputK
 simp only [keyM,mlOf]
 by_cases h:in64 n
 ·rw [if_pos h,if_pos h]
  unfold blkK
  simp only
  cases lk bl none id with
  | none=>rfl
  | some y =>
   cases y with
   | mp ek l =>
    simp only [ML.kind,true_and]
    by_cases e:ek = 1
    ·subst e
     simp only [true_and,mputBK]
     split <;> rfl
    ·rw [if_neg (fun q=>e q.1)]
     match ek,e with
     | 0,_=>rfl
     | 1,e=>exact absurd rfl e
     | _ + 2,_=>rfl
   | _=>rfl
 ·rw [if_neg h,if_neg h]
  rfl
theorem mputBK_mp (n:Int) (b:Bool) (id:Nat) (m:MB):mputBK n b id (some (.mp 1 (mB m))) kw = if m.length < 1000000000000 then kw .any [(id,some (.mp 1 (mB (putG n b m))))] else none:=by
 unfold mputBK
 simp only [mB_len,mB_put]
def mgetK (z:ML) (m a:V) (bl:List (Nat × Option Blk)) (k:V→Option β):Option β:=match mapV (lk bl none) m,keyM a with
 | some (ek,l),some n=>if l.isEmpty = true ∨ z.kind = ek then k (.d (getG n z l).d) else none
 | _,_=>none
theorem opK_mget (z:ML) (m a:Opd):opK T d (.mget z m a) fr bl k kw = opdK fr m fun mv=>opdK fr a fun av=>mgetK z mv av bl k:=by
 unfold opK opdK mgetK
 simp only [aop]
 cases mapV (lk bl none) (evo (lk fr .any) m) with
 | none=>rfl
 | some p =>
  cases keyM (evo (lk fr .any) a) with
  | none=>rfl
  | some n =>
   obtain ⟨ek,l⟩:=p
   simp only
   by_cases h:l.isEmpty = true ∨ z.kind = ek
   ·rw [if_pos h,if_pos h]
   ·rw [if_neg h,if_neg h]
def mgetBK (z:Bool) (n:Int) (y:Option Blk) (k:V→Option β):Option β:=match y with
 | some (.mp ek l)=>if l.isEmpty = true ∨ 1 = ek then k (.d (getG n (.b z) l).d) else none
 | some (.fmp ek l)=>if l.isEmpty = true ∨ 1 = ek then k (.d (getG n (.b z) l).d) else none
 | _=>none
theorem mgetK_own (z:Bool) (id:Nat) (n:Int):mgetK (.b z) (.mp id) (.d (.int .i64 n)) bl k = if in64 n then blkK bl id fun y=>mgetBK z n y k else none:=by
 unfold mgetK
 simp only [keyM,mapV]
 by_cases h:in64 n
 ·rw [if_pos h,if_pos h]
  unfold blkK
  cases lk bl none id with
  | none=>rfl
  | some y=>cases y <;> rfl
 ·rw [if_neg h,if_neg h]
  cases lk bl none id with
  | none=>rfl
  | some y=>cases y <;> rfl
theorem mgetBK_mp (z:Bool) (n:Int) (m:MB):mgetBK z n (some (.mp 1 (mB m))) k = k (.d (.bool (getG n z m))):=by
 show (if (mB m).isEmpty = true ∨ (1:Nat) = 1 then k (.d (getG n (.b z) (mB m)).d) else none) = _
 rw [if_pos (isEmpty_or m),mB_get]
 rfl
theorem mgetBK_fmp (z:Bool) (n:Int) (m:MB):mgetBK z n (some (.fmp 1 (mB m))) k = k (.d (.bool (getG n z m))):=mgetBK_mp z n m
theorem mgetK_d (z:Bool) (n:Int) (m:MB):mgetK (.b z) (.d (.mp 1 (mB m))) (.d (.int .i64 n)) bl k = if in64 n then k (.d (.bool (getG n z m))) else none:=by
 unfold mgetK
 simp only [keyM,mapV]
 by_cases h:in64 n
 ·rw [if_pos h,if_pos h]
  show (if (mB m).isEmpty = true ∨ (1:Nat) = 1 then k (.d (getG n (.b z) (mB m)).d) else none) = _
  rw [if_pos (isEmpty_or m),mB_get]
  rfl
 ·rw [if_neg h,if_neg h]
theorem mgetK_o (z:Bool) (n:Int) (x:Option MB):mgetK (.b z) (.d (eB x)) (.d (.int .i64 n)) bl k = if in64 n then k (.d (.bool (getO n z x))) else none:=by
 cases x with
 | none =>
  unfold mgetK
  simp only [keyM,mapV,eB]
  by_cases h:in64 n
  ·rw [if_pos h,if_pos h]; rfl
  ·rw [if_neg h,if_neg h]
 | some m=>exact mgetK_d z n m
def mdelK (ek:Nat) (m a:V) (bl:List (Nat × Option Blk)) (k:V→Option β) (kw:V→List (Nat × Option Blk)→Option β):Option β:=ansK (match m,keyM a with
  | .d (.mp 2 []),some _=>some (.any,[])
  | .mp id,some n=>match lk bl none id with
   | some (.mp ek' l)=>if ek' = ek then some (.any,[(id,some (.mp ek (delG n l)))]) else none
   | _=>none
  | _,_=>none) k kw
theorem opK_mdel (ek:Nat) (m a:Opd):opK T d (.mdel ek m a) fr bl k kw = opdK fr m fun mv=>opdK fr a fun av=>mdelK ek mv av bl k kw:=by
 rw [opK_ans]
 rfl
def mdelBK (n:Int) (id:Nat) (y:Option Blk) (kw:V→List (Nat × Option Blk)→Option β):Option β:=match y with
 | some (.mp ek l)=>if ek = 1 then kw .any [(id,some (.mp 1 (delG n l)))] else none
 | _=>none
theorem mdelK_own (id:Nat) (n:Int):mdelK 1 (.mp id) (.d (.int .i64 n)) bl k kw = if in64 n then blkK bl id fun y=>mdelBK n id y kw else none:=by
 unfold mdelK
 simp only [keyM]
 by_cases h:in64 n
 ·rw [if_pos h,if_pos h]
  unfold blkK
  simp only
  cases lk bl none id with
  | none=>rfl
  | some y =>
   cases y with
   | mp ek l =>
    simp only [mdelBK]
    split <;> rfl
   | _=>rfl
 ·rw [if_neg h,if_neg h]
  rfl
theorem mdelBK_mp (n:Int) (id:Nat) (m:MB):mdelBK n id (some (.mp 1 (mB m))) kw = kw .any [(id,some (.mp 1 (mB (delG n m))))]:=by
 unfold mdelBK
 simp only [if_true,mB_del]
theorem cellsK_mp (i:Nat) (k:List V→Option β):cellsK (.mp i) k = k [.mp i]:=rfl
def d1M (id:Nat) (b:Option Blk) (k:D→List (Nat × Option Blk)→Option β):Option β:=match b with
 | some (.mp ek m)=>k (.mp ek m) [(id,some (.fmp ek m))]
 | some (.fmp ek m)=>k (.mp ek m) []
 | _=>none
theorem d1M_mp (id ek:Nat) (m:List (Int × ML)) (k:D→List (Nat × Option Blk)→Option β):d1M id (some (.mp ek m)) k = k (.mp ek m) [(id,some (.fmp ek m))]:=rfl
theorem d1M_fmp (id ek:Nat) (m:List (Int × ML)) (k:D→List (Nat × Option Blk)→Option β):d1M id (some (.fmp ek m)) k = k (.mp ek m) []:=rfl
theorem d1K_mp (id:Nat) (k:D→List (Nat × Option Blk)→Option β):d1K (.mp id) bl k = blkK bl id fun b=>d1M id b k:=by
 unfold d1K blkK d1M
 simp only [toD1,fz1,toD0,fz0]
 generalize lk bl none id = b
 cases b with
 | none=>rfl
 | some b=>cases b <;> rfl
theorem toDK_mp (id:Nat) (k:D→List (Nat × Option Blk)→Option β):toDK (.mp id) bl k = d1K (.mp id) bl k:=rfl
theorem rowCK_mp (id:Nat) (cs:List V) (kk:List D→List (Nat × Option Blk)→Option β):rowCK bl (.mp id :: cs) kk = d1K (.mp id) bl fun x g=>rowCK bl cs fun ds f=>kk (x :: ds) (g ++ f):=by
 rw [rowCK_eq]
 unfold d1K
 simp only [mapM',List.flatMap_cons,rowCK_eq]
 cases toD1 (lk bl none) (.mp id) with
 | none=>rfl
 | some x =>
  cases mapM' (toD1 (lk bl none)) cs <;> rfl
theorem rowK_mp (id:Nat) (k:List D→List (Nat × Option Blk)→Option β):rowK (.mp id) bl k = d1K (.mp id) bl fun x f=>k [x] f:=by
 unfold rowK d1K
 show (match mapM' (toD1 (lk bl none)) [.mp id] with | some row=>k row (fz1 (lk bl none) (.mp id)) | none=>none) = _
 simp only [mapM']
 cases toD1 (lk bl none) (.mp id) <;> rfl
def noTupL:List V→Option β→Option β
 | [],y=>y
 | v :: l,y=>if v.noTup = true then noTupL l y else none
theorem noTupL_eq (y:Option β):∀ l:List V,noTupL l y = if l.all V.noTup = true then y else none
 | []=>rfl
 | v :: l=>by
  by_cases h:v.noTup = true
  ·simp [noTupL,h,noTupL_eq y l]
  ·simp [noTupL,h]
theorem backK_L (dst:Option Nat) (slots:List Nat) (cs:List V) (v u:V) (l:List V) (k:List (Nat × V)→Option β):backK dst slots cs (v :: u :: l) k = noTupL (v :: u :: l) (k (dstV dst (.tup (v :: u :: l)) ++ slots.zip cs)):=by
 rw [backK_more,noTupL_eq]
theorem noTupL_nil (y:Option β):noTupL [] y = y:=rfl
theorem noTupL_d (x:D) (l:List V) (y:Option β):noTupL (.d x :: l) y = noTupL l y:=rfl
theorem noTupL_mp (i:Nat) (l:List V) (y:Option β):noTupL (.mp i :: l) y = noTupL l y:=rfl
theorem noTupL_own (i v:Nat) (l:List V) (y:Option β):noTupL (.own i v :: l) y = noTupL l y:=rfl
theorem noTupL_ptr (i v:Nat) (l:List V) (y:Option β):noTupL (.ptr i v :: l) y = noTupL l y:=rfl
theorem noTupL_n (l:List V) (y:Option β):noTupL (.nil :: l) y = noTupL l y:=rfl
theorem noTupL_agg (cs:List V) (l:List V) (y:Option β):noTupL (.agg cs :: l) y = noTupL l y:=rfl
theorem noTupL_aggD (ds:List D) (l:List V) (y:Option β):noTupL (aggD ds :: l) y = noTupL l y:=rfl
def frMK (id:Nat) (b:Option Blk) (k:V→List (Nat × Option Blk)→Option β) (y:Option β):Option β:=match b with
 | some (.mp ek m)=>k (.d (.mp ek m)) [(id,some (.fmp ek m))]
 | some (.fmp ek m)=>k (.d (.mp ek m)) []
 | _=>y
theorem frTK_mp (id:Nat) (k:V→List (Nat × Option Blk)→Option β) (y:Option β):frTK (.mp id) bl k y = blkK bl id fun b=>frMK id b k y:=by
 unfold frTK blkK frMK
 simp only [toD0,fz0]
 generalize lk bl none id = b
 cases b with
 | none=>rfl
 | some b=>cases b <;> rfl
theorem frMK_mp (id ek:Nat) (m:List (Int × ML)) (k:V→List (Nat × Option Blk)→Option β) (y:Option β):frMK id (some (.mp ek m)) k y = k (.d (.mp ek m)) [(id,some (.fmp ek m))]:=rfl
theorem frMK_fmp (id ek:Nat) (m:List (Int × ML)) (k:V→List (Nat × Option Blk)→Option β) (y:Option β):frMK id (some (.fmp ek m)) k y = k (.d (.mp ek m)) []:=rfl
section
variable (keep:List Nat)
def normMK (id:Nat) (b:Option Blk) (k:V→Option β):Option β:=match b with
 | some (.mp _ _)=>containsK keep id (k (.mp id)) (k .any)
 | some (.fmp ek m)=>k (.d (.mp ek m))
 | _=>k .any
theorem normK_mp (id:Nat):normK keep bl (.mp id) k = blkK bl id fun b=>normMK keep id b k:=by
 unfold normK blkK normMK containsK
 simp only [norm3,norm2,norm1]
 generalize lk bl none id = b
 cases b with
 | none=>rfl
 | some b=>cases b <;> first | rfl | (simp only; cases h:keep.contains id <;> simp)
theorem normMK_mp (id ek:Nat) (m:List (Int × ML)):normMK keep id (some (.mp ek m)) k = containsK keep id (k (.mp id)) (k .any):=rfl
theorem normMK_fmp (id ek:Nat) (m:List (Int × ML)):normMK keep id (some (.fmp ek m)) k = k (.d (.mp ek m)):=rfl
theorem normMK_none (id:Nat):normMK keep id none k = k .any:=rfl
theorem normCK_mp (id:Nat) (cs:List V) (k:List V→Option β):normCK keep bl (.mp id :: cs) k = normK keep bl (.mp id) fun v=>normCK keep bl cs fun l=>k (v :: l):=by simp only [normCK_eq]; rfl
theorem normBK_mp (ek:Nat) (m:List (Int × ML)) (k:Option Blk→Option β):normBK keep bl (some (.mp ek m)) k = k (some (.mp ek m)):=rfl
theorem normBK_fmp (ek:Nat) (m:List (Int × ML)) (k:Option Blk→Option β):normBK keep bl (some (.fmp ek m)) k = k none:=rfl
end
theorem idsK_mp (i:Nat) (k:List Nat→Option β):idsK (.mp i) k = k [i]:=rfl
theorem didsK_mp (i:Nat) (k:List Nat→Option β):didsK bl (.mp i) k = k [i]:=rfl
theorem didsCK_mp (i:Nat) (cs:List V) (k:List Nat→Option β):didsCK bl (.mp i :: cs) k = didsCK bl cs fun l=>k (i :: l):=by simp only [didsCK_eq]; rfl
theorem bidsCK_mp (i:Nat) (cs:List V) (k:List Nat→Option β):bidsCK (.mp i :: cs) k = bidsCK cs fun l=>k (i :: l):=by simp only [bidsCK_eq]; rfl
theorem evK_handM {m:Nat} {g:V→List (Nat × V)→List (Nat × Option Blk)→Option St} {f:St→Option St} (hf:∀ s:St,f s = match (frT m s).get m with
  | .d x=>g (.d x) (frT m s).fr (frT m s).bl
  | _=>none) (k:Ex→St→Option β):evK T (.hand f) ⟨fr,bl⟩ k = getK fr m fun v=>frTK v bl (fun v' wr=>match g v' ((m,v') :: fr) (wr ++ bl) with
  | some s=>k .normal s
  | none=>none) none:=by
 unfold evK
 have hfr:frT m ⟨fr,bl⟩ = (match toD0 (lk bl none) (lk fr .any m) with
  | some d=>⟨(m,.d d) :: fr,fz0 (lk bl none) (lk fr .any m) ++ bl⟩
  | none=>⟨fr,bl⟩ : St):=rfl
 rw [ev_hand,hf,hfr]
 unfold getK frTK
 have e:(⟨fr,bl⟩ : St).get m = lk fr .any m:=rfl
 generalize lk fr .any m = v at e
 cases h:toD0 (lk bl none) v with
 | none =>
  simp only
  rw [e]
  cases v with
  | d x=>cases h
  | _=>simp only [h]; rfl
 | some x =>
  simp only
  have e:(⟨(m,V.d x) :: fr,fz0 (lk bl none) v ++ bl⟩ : St).get m = .d x:=by simp [St.get,lk]
  rw [e]
  simp only [h]
  cases g (.d x) ((m,.d x) :: fr) (fz0 (lk bl none) v ++ bl) <;> rfl
def delVK (ek0:Nat) (v u:V) (bl:List (Nat × Option Blk)) (kk:List (Nat × Option Blk)→Option β):Option β:=match v,u with
 | .d (.mp ek l),.mp id=>match lk bl none id with
  | some (.mp ek' l2)=>if (ek = ek0 ∨ ek = 2) ∧ ek' = ek0 then kk [(id,some (.mp ek' (subG l l2)))] else none
  | _=>none
 | .d (.mp ek l),.d (.mp 2 [])=>if ek = ek0 ∨ ek = 2 then kk [] else none
 | _,_=>none
theorem deadL_F (dead:List Nat) (fr:List (Nat × V)):deadL dead fr = deadF dead fr:=by
 induction dead with
 | nil=>rfl
 | cons t l ih =>
  show (t,V.any) :: deadL l fr = (t,V.any) :: deadF l fr
  rw [ih]
theorem evK_handDel (ek0 m inn:Nat) (dead:List Nat) (k:Ex→St→Option β):evK T (.hand (handDel ek0 m inn dead)) ⟨fr,bl⟩ k = getK fr m fun v=>frTK v bl (fun v' wr=>getK ((m,v') :: fr) inn fun u=>delVK ek0 v' u (wr ++ bl) fun w2=>k .normal ⟨deadF dead ((m,v') :: fr),w2 ++ (wr ++ bl)⟩) none:=by
 rw [evK_handM (g:=fun v fr bl=>delVK ek0 v (lk fr .any inn) bl fun w2=>some ⟨deadF dead fr,w2 ++ bl⟩) (fun s=>?_) k]
 ·unfold getK
  refine congrArg (fun q=>frTK (lk fr .any m) bl q none) ?_
  funext v' wr
  generalize lk ((m,v') :: fr) .any inn = u
  unfold delVK
  cases v' with
  | d x =>
   cases x with
   | mp ek l =>
    cases u with
    | mp id =>
     simp only
     cases lk (wr ++ bl) none id with
     | none=>rfl
     | some y =>
      cases y with
      | mp ek' l2=>by_cases hc:(ek = ek0 ∨ ek = 2) ∧ ek' = ek0 <;> first | (simp only [if_pos hc]; done) | (simp only [if_neg hc]; done)
      | _=>rfl
    | d y =>
     cases y with
     | mp e2 l2 =>
      match e2,l2 with
      | 2,[]=>by_cases hc:ek = ek0 ∨ ek = 2 <;> first | (simp only [if_pos hc]; done) | (simp only [if_neg hc]; done)
      | 2,_ :: _=>rfl
      | 0,_=>rfl
      | 1,_=>rfl
      | _ + 3,_=>rfl
     | _=>rfl
    | _=>rfl
   | _=>rfl
  | _=>rfl
 ·unfold handDel delVK
  generalize frT m s = s1
  have e1:s1.get inn = lk s1.fr .any inn:=rfl
  rw [e1]
  cases s1.get m with
  | d x =>
   cases x with
   | mp ek l =>
    cases lk s1.fr .any inn with
    | mp id =>
     simp only
     have e2:s1.blk id = lk s1.bl none id:=rfl
     rw [e2]
     cases lk s1.bl none id with
     | none=>rfl
     | some y =>
      cases y with
      | mp ek' l2=>simp only [deadL_F]; rfl
      | _=>rfl
    | d y =>
     cases y with
     | mp e2 l2 =>
      match e2,l2 with
      | 2,[]=>simp only [deadL_F]; rfl
      | 2,_ :: _=>rfl
      | 0,_=>rfl
      | 1,_=>rfl
      | _ + 3,_=>rfl
     | _=>rfl
    | _=>rfl
   | _=>cases lk s1.fr .any inn <;> rfl
  | _=>cases lk s1.fr .any inn <;> rfl
def delBK (l:List (Int × ML)) (id:Nat) (y:Option Blk) (kk:List (Nat × Option Blk)→Option β):Option β:=match y with
 | some (.mp ek' l2)=>if ek' = 1 then kk [(id,some (.mp 1 (subG l l2)))] else none
 | _=>none
theorem delVK_go {ek:Nat} (h:ek = 1 ∨ ek = 2) (l:List (Int × ML)) (id:Nat) (kk:List (Nat × Option Blk)→Option β):delVK 1 (.d (.mp ek l)) (.mp id) bl kk = blkK bl id fun y=>delBK l id y kk:=by
 unfold delVK blkK delBK
 simp only
 cases lk bl none id with
 | none=>rfl
 | some y =>
  cases y with
  | mp ek' l2 =>
   simp only
   by_cases e:ek' = 1
   ·subst e
    rw [if_pos ⟨h,rfl⟩,if_pos rfl]
   ·rw [if_neg (fun q=>e q.2),if_neg e]
  | _=>rfl
def delEK (x:Option MB) (id:Nat) (y:Option Blk) (kk:List (Nat × Option Blk)→Option β):Option β:=match x with
 | none=>delBK [] id y kk
 | some l=>delBK (mB l) id y kk
theorem delVK_s (l:MB) (id:Nat) (kk:List (Nat × Option Blk)→Option β):delVK 1 (.d (.mp 1 (mB l))) (.mp id) bl kk = blkK bl id fun y=>delEK (some l) id y kk:=delVK_go (.inl rfl) (mB l) id kk
theorem delVK_n (id:Nat) (kk:List (Nat × Option Blk)→Option β):delVK 1 (.d (.mp 2 [])) (.mp id) bl kk = blkK bl id fun y=>delEK none id y kk:=delVK_go (.inr rfl) [] id kk
theorem delVK_o (x:Option MB) (id:Nat) (kk:List (Nat × Option Blk)→Option β):delVK 1 (.d (eB x)) (.mp id) bl kk = blkK bl id fun y=>delEK x id y kk:=by
 cases x with
 | none=>exact delVK_n id kk
 | some l=>exact delVK_s l id kk
theorem delVK_s0 (l:MB) (kk:List (Nat × Option Blk)→Option β):delVK 1 (.d (.mp 1 (mB l))) (.d (.mp 2 [])) bl kk = kk []:=rfl
theorem delVK_n0 (kk:List (Nat × Option Blk)→Option β):delVK 1 (.d (.mp 2 [])) (.d (.mp 2 [])) bl kk = kk []:=rfl
theorem delVK_o0 (x:Option MB) (kk:List (Nat × Option Blk)→Option β):delVK 1 (.d (eB x)) (.d (.mp 2 [])) bl kk = kk []:=by cases x <;> rfl
theorem delEK_mp (x:Option MB) (id:Nat) (m:MB) (kk:List (Nat × Option Blk)→Option β):delEK x id (some (.mp 1 (mB m))) kk = kk [(id,some (.mp 1 (mB (subO x m))))]:=by
 cases x with
 | none =>
  show (if (1:Nat) = 1 then kk [(id,some (.mp 1 (subG [] (mB m))))] else none) = _
  rw [if_pos rfl,mB_sub0]
  rfl
 | some l =>
  show (if (1:Nat) = 1 then kk [(id,some (.mp 1 (subG (mB l) (mB m))))] else none) = _
  rw [if_pos rfl,mB_sub]
  rfl
def setVK (ek0:Nat) (v u:V) (bl:List (Nat × Option Blk)) (kk:List (Nat × Option Blk)→Option β):Option β:=match v,u with
 | .d (.mp ek l),.own id ver=>match lk bl none id with
  | some (.rows v e size rows)=>if (ek = ek0 ∨ ek = 2) ∧ ver = v ∧ size = 1 ∧ keysIn l rows.length = true ∧ sized 1 rows = true then kk [(id,some (.rows v e size (setKs l rows)))] else none
  | _=>none
 | _,_=>none
theorem evK_handSet (ek0 m out:Nat) (dead:List Nat) (k:Ex→St→Option β):evK T (.hand (handSet ek0 m out dead)) ⟨fr,bl⟩ k = getK fr m fun v=>frTK v bl (fun v' wr=>getK ((m,v') :: fr) out fun u=>setVK ek0 v' u (wr ++ bl) fun w2=>k .normal ⟨deadF dead ((m,v') :: fr),w2 ++ (wr ++ bl)⟩) none:=by
 rw [evK_handM (g:=fun v fr bl=>setVK ek0 v (lk fr .any out) bl fun w2=>some ⟨deadF dead fr,w2 ++ bl⟩) (fun s=>?_) k]
 ·unfold getK
  refine congrArg (fun q=>frTK (lk fr .any m) bl q none) ?_
  funext v' wr
  generalize lk ((m,v') :: fr) .any out = u
  unfold setVK
  cases v' with
  | d x =>
   cases x with
   | mp ek l =>
    cases u with
    | own id ver =>
     simp only
     cases lk (wr ++ bl) none id with
     | none=>rfl
     | some y =>
      cases y with
      | rows v e size rows=>by_cases hc:(ek = ek0 ∨ ek = 2) ∧ ver = v ∧ size = 1 ∧ keysIn l rows.length = true ∧ sized 1 rows = true <;> first | (simp only [if_pos hc]; done) | (simp only [if_neg hc]; done)
      | _=>rfl
    | _=>rfl
   | _=>rfl
  | _=>rfl
 ·unfold handSet setVK
  generalize frT m s = s1
  have e1:s1.get out = lk s1.fr .any out:=rfl
  rw [e1]
  cases s1.get m with
  | d x =>
   cases x with
   | mp ek l =>
    cases lk s1.fr .any out with
    | own id ver =>
     simp only
     have e2:s1.blk id = lk s1.bl none id:=rfl
     rw [e2]
     cases lk s1.bl none id with
     | none=>rfl
     | some y =>
      cases y with
      | rows v e size rows=>simp only [deadL_F]; rfl
      | _=>rfl
    | _=>rfl
   | _=>cases lk s1.fr .any out <;> rfl
  | _=>cases lk s1.fr .any out <;> rfl
def setBK1 (l:List (Int × ML)) (id ver:Nat) (y:Option Blk) (kk:List (Nat × Option Blk)→Option β):Option β:=match y with
 | some (.rows v e size rows)=>if ver = v ∧ size = 1 ∧ keysIn l rows.length = true ∧ sized 1 rows = true then kk [(id,some (.rows v e size (setKs l rows)))] else none
 | _=>none
theorem setVK_s (l:MB) (id ver:Nat) (kk:List (Nat × Option Blk)→Option β):setVK 1 (.d (.mp 1 (mB l))) (.own id ver) bl kk = blkK bl id fun y=>setBK1 (mB l) id ver y kk:=by
 unfold setVK blkK setBK1
 simp only
 cases lk bl none id with
 | none=>rfl
 | some y =>
  cases y with
  | rows v e size rows =>
   simp only
   by_cases h:ver = v ∧ size = 1 ∧ keysIn (mB l) rows.length = true ∧ sized 1 rows = true
   ·rw [if_pos h,if_pos ⟨.inl trivial,h⟩]
   ·rw [if_neg h,if_neg fun q=>h q.2]
  | _=>rfl
theorem setBK1_rows (l:MB) (id v e:Nat) (xs:List Bool) (kk:List (Nat × Option Blk)→Option β):setBK1 (mB l) id v (some (.rows v e 1 (cM cB xs))) kk = if keysM l xs.length = true then kk [(id,some (.rows v e 1 (cM cB (markM l xs))))] else none:=by
 unfold setBK1
 simp only [cM_length,mB_keys,mB_set,sized_cB,true_and,and_true]
end
end Vm
end Go.Proofs.Ytmekbfccmnjdcaa
set_option linter.unusedVariables false
set_option linter.unusedSimpArgs false
namespace Go.Proofs.Ytmekbfccmnjdcaa
namespace Vm
open Go.RowKit
def handSort (m dst:Nat) (dead:List Nat) (s:St):Option St:=match (frT m s).get m with
 | .d (.mp ek l)=>if (ek = 1 ∨ ek = 2) ∧ l.length < 1000000000000 then some ⟨(dst,.d (.sl (l.map fun p=>[.int .i64 p.1]))) :: deadL dead (frT m s).fr,(frT m s).bl⟩ else none
 | _=>none
section
variable {β:Type} {T:Tbl} {d:Nat} {fr:List (Nat × V)} {bl:List (Nat × Option Blk)} {k:V→Option β} {kw:V→List (Nat × Option Blk)→Option β}
def sortVK (v:V) (kk:D→Option β):Option β:=match v with
 | .d (.mp ek l)=>if (ek = 1 ∨ ek = 2) ∧ l.length < 1000000000000 then kk (.sl (l.map fun p=>[.int .i64 p.1])) else none
 | _=>none
theorem evK_handSort (m dst:Nat) (dead:List Nat) (k:Ex→St→Option β):evK T (.hand (handSort m dst dead)) ⟨fr,bl⟩ k = getK fr m fun v=>frTK v bl (fun v' wr=>sortVK v' fun x=>k .normal ⟨(dst,.d x) :: deadF dead ((m,v') :: fr),wr ++ bl⟩) none:=by
 rw [evK_handM (g:=fun v fr bl=>sortVK v fun x=>some ⟨(dst,.d x) :: deadF dead fr,bl⟩) (fun s=>?_) k]
 ·unfold getK
  refine congrArg (fun q=>frTK (lk fr .any m) bl q none) ?_
  funext v' wr
  unfold sortVK
  cases v' with
  | d x =>
   cases x with
   | mp ek l=>by_cases hc:(ek = 1 ∨ ek = 2) ∧ l.length < 1000000000000 <;> first | (simp only [if_pos hc]; done) | (simp only [if_neg hc]; done)
   | _=>rfl
  | _=>rfl
 ·unfold handSort sortVK
  generalize frT m s = s1
  cases s1.get m with
  | d x =>
   cases x with
   | mp ek l=>simp only [deadL_F]
   | _=>rfl
  | _=>rfl
theorem keys_rows (m:MB):((mB m).map fun p=>[D.int .i64 p.1]) = cM cI (m.map (·.1)):=by
 show (m.map _).map _ = (m.map _).map _
 rw [List.map_map,List.map_map]
 rfl
theorem sortVK_s (m:MB) (kk:D→Option β):sortVK (.d (.mp 1 (mB m))) kk = if m.length < 1000000000000 then kk (.sl (cM cI (keysO (some m)))) else none:=by
 show (if ((1:Nat) = 1 ∨ (1:Nat) = 2) ∧ (mB m).length < 1000000000000 then kk (.sl ((mB m).map fun p=>[.int .i64 p.1])) else none) = _
 rw [mB_len,keys_rows]
 by_cases h:m.length < 1000000000000
 ·rw [if_pos ⟨.inl rfl,h⟩,if_pos h]; rfl
 ·rw [if_neg (fun q=>h q.2),if_neg h]
theorem sortVK_n (kk:D→Option β):sortVK (.d (.mp 2 [])) kk = kk (.sl (cM cI [])):=by
 show (if ((2:Nat) = 1 ∨ (2:Nat) = 2) ∧ (0:Nat) < 1000000000000 then kk (.sl []) else none) = _
 rw [if_pos ⟨.inr rfl,by decide⟩]
 rfl
end
end Vm
end Go.Proofs.Ytmekbfccmnjdcaa
