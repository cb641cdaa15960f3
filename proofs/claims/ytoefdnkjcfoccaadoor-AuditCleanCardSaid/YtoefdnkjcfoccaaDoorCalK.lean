/- Small lemmas. -/
import Derived.Test.YtoefdnkjcfoccaaDoorChecked
import Derived.WalkKit
import Derived.Lib.Hide
import Derived.Deep.Cut
import Derived.Deep.CutRange
import Derived.Deep.DeepCutAuto
import Derived.Deep.LoopGhost
import Derived.Deep.QuietTactic
import Derived.BigQuiet
import Derived.WalkSpells
import Derived.WalkLawsBesides
import Derived.WalkSmall
import Derived.Deep.RegionWith
import Derived.Deep.RegionHeld3
import Derived.Deep.DeepFit
import Derived.Deep.DeepMust
import Derived.Deep.Light
import Derived.RangeFuncNested
import Derived.RangeFuncBound
import Derived.RangeFuncCalls
import Derived.RangeFuncLeaves
import Derived.RangeFuncBox
import Derived.Shelf.Abstract
import Derived.Shelf.RegionOpen
import Derived.OwnWalkIn
import Derived.TacticsInMore
import Derived.LoopNIn
import Derived.LoopIn
set_option linter.unusedVariables false
namespace Go.Proofs.YtoefdnkjcfoccaaDoor
open Go.RowKit
end Go.Proofs.YtoefdnkjcfoccaaDoor
namespace Go.Proofs.YtoefdnkjcfoccaaDoor
open Go.RowKit
def at0 (l:List Int) (j:Nat):Int:=l[j]?.getD 0
theorem aRz (l:List Int) (j:Nat) (h:j < l.length):at0 l j = l[j]:=by simp [at0,h]
def SZ (w:World) (v:Value) (xs:List Int):Prop :=
 xs.length <= 140737488355328 ∧
 ((∃ a c,v = .slice a 0 c ∧ xs = []) ∨ ∃ b off c,v = .slice (some ⟨b,off,none⟩) xs.length c ∧ ∀ j,j < xs.length->w.cell? ⟨b,off + j,none⟩ = some (.int .i64 (at0 xs j)))
theorem SZ.below {A B:World} {n:Nat} (h:Below A.heap.size A B) (_hn:n = 0) {v:Value} {xs:List Int}:SZ A v xs->SZ B v xs:=by
 rintro ⟨hl,h0 | ⟨b,off,c,rfl,hc⟩⟩
 ·exact ⟨hl,.inl h0⟩
 ·exact ⟨hl,.inr ⟨b,off,c,rfl,fun j hj=>(h.cell (p:=⟨b,off + j,none⟩) (World.block_lt_of_cell? A _ (hc j hj))).trans (hc j hj)⟩⟩
theorem SZ.to {A B:World} (h:Below A.heap.size A B) {v:Value} {xs:List Int} (hi:SZ A v xs):SZ B v xs:=SZ.below h (n:=0) rfl hi
theorem SZ.nil (w:World) (a:Option Addr) (c:Nat):SZ w (.slice a 0 c) []:=⟨by simp,.inl ⟨a,c,rfl,rfl⟩⟩
end Go.Proofs.YtoefdnkjcfoccaaDoor
namespace Go.Proofs.YtoefdnkjcfoccaaDoor
open Go.RowKit Go.Shelf
theorem aAU {W:World} {b:Nat} {cs:Array Value} {t:TypeId} {o:Nat} {v:Value} (h:W.heap[b]? = some (.cells cs t)) (hv:cs[o]? = some v):W.cell? ⟨b,o,none⟩ = some v:=by
 simp [World.cell?,h,hv]
theorem aK8 {A B:World} (h:Below A.heap.size A B) {b:Nat} {o:Obj} (hb:A.heap[b]? = some o):B.heap[b]? = some o :=
 (h.block b (Array.getElem?_eq_some_iff.1 hb).1).trans hb
theorem SZ.lit {w:World} {b t:Nat} (xs:List Int) (h:w.heap[b]? = some (.cells (xs.map (Value.int .i64)).toArray t)) (hl:xs.length <= 140737488355328) (c:Nat) :
  SZ w (.slice (some ⟨b,0,none⟩) xs.length c) xs :=
 ⟨hl,.inr ⟨b,0,c,rfl,fun j hj=>by rw [aRz xs j hj,Nat.zero_add]; exact aAU h (by simp [hj])⟩⟩
def W7 (n₀:Nat) (bs:List Nat) (A B:World):Prop:=Below n₀ A B ∧ ∀ b ∈ bs,B.heap[b]? = A.heap[b]?
theorem W7.t {n₀:Nat} {bs:List Nat} {A B C:World} (h:W7 n₀ bs A B) (k:W7 n₀ bs B C):W7 n₀ bs A C :=
 ⟨h.1.trans k.1,fun b hb=>(k.2 b hb).trans (h.2 b hb)⟩
theorem W7.b {n₀:Nat} {bs:List Nat} {w:World} (hn:n₀ <= w.heap.size) (hbs:∀ b ∈ bs,b < w.heap.size) (W:World) (l:Nat) (o o' : Obj) (hl:w.heap.size <= l) (h:W.heap[l]? = some o) (hc:o.isCells = false) (hw:o.isWalk = false) :
  W7 n₀ bs W (W.putObj l o') :=
 ⟨belowK_b hn W l o o' hl h hc hw,fun b hb=>World.putObj_heap_other (by have:=hbs b hb; omega)⟩
end Go.Proofs.YtoefdnkjcfoccaaDoor
