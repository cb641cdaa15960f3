/- A map that is laid and ranged over, each entry written into a row of the call's own: in whatever order. The small machine, read from the front: a range over a map that is laid. -/
import Derived.Test.YtgipgbhlibafhaaVmD
import Derived.Maps.RangeWalk
import Derived.WalkArith
import Derived.Test.YtgipgbhlibafhaaVmF
set_option linter.unusedVariables false
set_option linter.unusedSimpArgs false
namespace Go.Proofs.Ytgipgbhlibafhaa
namespace Vm
open Go.RowKit Go.Maps
def deadS (dead:List Nat) (s:St):List (Nat × V):=dead.map (fun t=>(t,V.any)) ++ s.fr
def setsL (cell:V→Option (List D)) (s:St):List (Nat × Nat)→List (List D)→Option (List (List D))
 | [],rows=>some rows
 | (k,t) :: l,rows=>match cell (s.get t) with
  | some row=>if k < rows.length then setsL cell s l (rows.set k row) else none
  | none=>none
def handG (out:Nat) (cell:V→Option (List D)) (ks:List (Nat × Nat)) (dead:List Nat) (s:St):Option St:=match s.get out with
 | .own id ver=>match s.blk id with
  | some (.rows v e size rows)=>if ver = v ∧ size = 2 then match setsL cell s ks rows with
    | some rows'=>some ⟨deadS dead s,(id,some (.rows v e size rows')) :: s.bl⟩
    | none=>none
   else none
  | _=>none
 | _=>none
section
variable {P:Program} {nt:Nat} {w0:Base} {w w' : World} {h0 h:Hp} {fr:Nat→V} {bl:Nat→Option Blk} {a:Act} {hd:Nat→Value}
structure Side (w0:Base) (h:Hp) (bl:Nat→Option Blk) (hd:Nat→Value) (g:Nat):Prop where
 own:w0.own g
 out:h g = none
 off:∀ id b,bl id = some b→b.live = true→numOf (hd id) ≠ some g
theorem Side.new (r:Rl nt w0 h0 fr bl a w h hd) {g:Nat} (hg:w.heap.size ≤ g):Side w0 h bl hd g where
 own:=.inl (Nat.le_trans r.below.size hg)
 out:=h_fresh r.hle hg
 off:=fun id b hb hl q=>by have:=((r.blk id b hb).num hl q).2.1; omega
structure LoopC where
 it:Nat
 nx:Nat
 ok:Nat
 en:Nat
 k1:Nat
 v1:Nat
 kk:Nat
 vv:Nat
 d1:Nat
 d2:Nat
 d3:Nat
 dc:Nat
 da:Nat
 out:Nat
def LoopC.slots (L:LoopC):List Nat:=[L.nx,L.ok,L.en,L.k1,L.v1,L.kk,L.vv,L.d1,L.d2,L.d3,L.dc,L.da]
def cOf (cell:V→Option (List D)) (s:St) (ks:List (Nat × Nat)) (i:Nat):Option (List D):=(ks.find? fun p=>p.1 == i).bind fun p=>cell (s.get p.2)
def AllP {α:Type} (Q:α→Prop):List α→Prop
 | []=>True
 | x :: l=>Q x ∧ AllP Q l
theorem AllP.all {α:Type} {Q:α→Prop}:∀ {l:List α},AllP Q l→∀ x ∈ l,Q x
 | [],_,x,h=>by simp at h
 | y :: l,q,x,h=>by
  rcases List.mem_cons.1 h with rfl | h
  ·exact q.1
  ·exact AllP.all q.2 x h
end
end Vm
end Go.Proofs.Ytgipgbhlibafhaa
set_option linter.unusedVariables false
set_option linter.unusedSimpArgs false
namespace Go.Proofs.Ytgipgbhlibafhaa
namespace Vm
open Go.RowKit
section
variable {β:Type} {T:Tbl} {fr:List (Nat × V)} {bl:List (Nat × Option Blk)}
def handBK (ver:Nat) (b:Option Blk) (g:Nat→List (List D)→Option β):Option β:=match b with
 | some (.rows v e size rows)=>if ver = v ∧ size = 2 then g e rows else none
 | _=>none
theorem handBK_rows (v e:Nat) (rows:List (List D)) (g:Nat→List (List D)→Option β):handBK v (some (.rows v e 2 rows)) g = g e rows:=if_pos ⟨rfl,rfl⟩
def setsK (cell:V→Option (List D)) (fr:List (Nat × V)):List (Nat × Nat)→List (List D)→(List (List D)→Option β)→Option β
 | [],rows,g=>g rows
 | (k,t) :: l,rows,g=>getK fr t fun v=>(cell v).bind fun row=>if k < rows.length then setsK cell fr l (rows.set k row) g else none
theorem setsK_nil (cell:V→Option (List D)) (rows:List (List D)) (g:List (List D)→Option β):setsK cell fr [] rows g = g rows:=rfl
theorem setsK_eq (cell:V→Option (List D)) (b:List (Nat × Option Blk)) (g:List (List D)→Option β):∀ (l:List (Nat × Nat)) (rows:List (List D)),setsK cell fr l rows g = (setsL cell ⟨fr,b⟩ l rows).bind g
 | [],rows=>rfl
 | (k,t) :: l,rows=>by
  simp only [setsK,setsL,getK]
  rw [get_mk]
  cases cell (lk fr .any t) with
  | none=>rfl
  | some row =>
   simp only [Option.bind_some,setsK_eq cell b g l]
   split <;> rfl
def deadF:List Nat→List (Nat × V)→List (Nat × V)
 | [],fr=>fr
 | t :: l,fr=>(t,.any) :: deadF l fr
theorem deadF_nil:deadF [] fr = fr:=rfl
theorem deadF_cons (t:Nat) (l:List Nat):deadF (t :: l) fr = (t,.any) :: deadF l fr:=rfl
theorem deadF_eq (b:List (Nat × Option Blk)):∀ l:List Nat,deadS l ⟨fr,b⟩ = deadF l fr
 | []=>rfl
 | t :: l=>by
  show (t,V.any) :: (deadS l ⟨fr,b⟩) = _
  rw [deadF_eq b l]
  rfl
theorem evK_hand (out:Nat) (cell:V→Option (List D)) (ks:List (Nat × Nat)) (dead:List Nat) (k:Ex→St→Option β):evK T (.hand (handG out cell ks dead)) ⟨fr,bl⟩ k = getK fr out fun v=>ownK v fun id ver=>blkK bl id fun b=>handBK ver b fun e rows=>setsK cell fr ks rows fun rows'=>k .normal ⟨deadF dead fr,(id,some (.rows ver e 2 rows')) :: bl⟩:=by
 unfold evK
 rw [ev_hand]
 unfold handG getK
 rw [get_mk]
 cases lk fr .any out with
 | own id ver =>
  simp only [ownK,blkK,handBK]
  rw [blk_fn]
  cases lk bl none id with
  | none=>rfl
  | some b =>
   cases b with
   | rows v e size rows =>
    simp only
    split
    ·rename_i hc
     obtain ⟨rfl,rfl⟩:=hc
     rw [setsK_eq cell bl]
     cases setsL cell ⟨fr,bl⟩ ks rows with
     | none=>rfl
     | some rows'=>simp only [Option.map_some,Option.bind_some,deadF_eq]
    ·rfl
   | _=>rfl
 | _=>rfl
def setI (v:V) (g:Int→Option β):Option β:=match v with
 | .d (.int .i64 n)=>g n
 | _=>none
def setB (v:V) (g:Bool→Option β):Option β:=match v with
 | .d (.bool b)=>g b
 | _=>none
theorem setI_i (n:Int) (g:Int→Option β):setI (.d (.int .i64 n)) g = g n:=rfl
theorem setB_b (b:Bool) (g:Bool→Option β):setB (.d (.bool b)) g = g b:=rfl
end
end Vm
end Go.Proofs.Ytgipgbhlibafhaa
