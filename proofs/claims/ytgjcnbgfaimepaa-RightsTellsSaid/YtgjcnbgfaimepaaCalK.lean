/- The kit's texts that the walks of this seat import, under one name; small lemmas on results. What memory holds: slices of ints. Below carries it. The kit's texts on a range over a function; small lemmas on blocks. -/
import Derived.Test.YtgjcnbgfaimepaaChecked
import Derived.WalkKit
import Derived.Lib.Hide
import Derived.Deep.Cut
import Derived.Deep.CutRange
import Derived.Deep.DeepCutAuto
import Derived.Deep.LoopGhost
import Derived.Deep.QuietTactic
import Derived.BigQuiet
import Derived.WalkSpells
import Derived.WalkLawsBesides
import Derived.WalkSmall
import Derived.Deep.RegionWith
import Derived.Deep.RegionHeld3
import Derived.Deep.DeepFit
import Derived.Deep.DeepMust
import Derived.Deep.Light
import Derived.RangeFuncNested
import Derived.RangeFuncBound
import Derived.RangeFuncCalls
import Derived.RangeFuncLeaves
import Derived.RangeFuncBox
import Derived.Shelf.Abstract
import Derived.Shelf.RegionOpen
import Derived.OwnWalkIn
import Derived.TacticsInMore
import Derived.LoopNIn
import Derived.LoopIn
set_option linter.unusedVariables false
namespace Go.Proofs.Ytgjcnbgfaimepaa
open Go.RowKit
end Go.Proofs.Ytgjcnbgfaimepaa
namespace Go.Proofs.Ytgjcnbgfaimepaa
open Go.RowKit
def at0 (l:List Int) (j:Nat):Int:=l[j]?.getD 0
def aBK (w:World) (v:Value) (xs:List Int):Prop :=
 xs.length <= 140737488355328 ∧
 ((∃ a c,v = .slice a 0 c ∧ xs = []) ∨ ∃ b off c,v = .slice (some ⟨b,off,none⟩) xs.length c ∧ ∀ j,j < xs.length->w.cell? ⟨b,off + j,none⟩ = some (.int .i64 (at0 xs j)))
theorem aBK.below {A B:World} {n:Nat} (h:Below A.heap.size A B) (_hn:n = 0) {v:Value} {xs:List Int}:aBK A v xs->aBK B v xs:=by
 rintro ⟨hl,h0 | ⟨b,off,c,rfl,hc⟩⟩
 ·exact ⟨hl,.inl h0⟩
 ·exact ⟨hl,.inr ⟨b,off,c,rfl,fun j hj=>(h.cell (p:=⟨b,off + j,none⟩) (World.block_lt_of_cell? A _ (hc j hj))).trans (hc j hj)⟩⟩
theorem aBK.to {A B:World} (h:Below A.heap.size A B) {v:Value} {xs:List Int} (hi:aBK A v xs):aBK B v xs:=aBK.below h (n:=0) rfl hi
theorem aBK.nil (w:World) (a:Option Addr) (c:Nat):aBK w (.slice a 0 c) []:=⟨by simp,.inl ⟨a,c,rfl,rfl⟩⟩
end Go.Proofs.Ytgjcnbgfaimepaa
namespace Go.Proofs.Ytgjcnbgfaimepaa
open Go.RowKit Go.Shelf
theorem aKh {A B:World} (h:Below A.heap.size A B) {b:Nat} {o:Obj} (hb:A.heap[b]? = some o):B.heap[b]? = some o :=
 (h.block b (Array.getElem?_eq_some_iff.1 hb).1).trans hb
def aAS (n₀:Nat) (bs:List Nat) (A B:World):Prop:=Below n₀ A B ∧ ∀ b ∈ bs,B.heap[b]? = A.heap[b]?
theorem aAS.t {n₀:Nat} {bs:List Nat} {A B C:World} (h:aAS n₀ bs A B) (k:aAS n₀ bs B C):aAS n₀ bs A C :=
 ⟨h.1.trans k.1,fun b hb=>(k.2 b hb).trans (h.2 b hb)⟩
theorem aAS.b {n₀:Nat} {bs:List Nat} {w:World} (hn:n₀ <= w.heap.size) (hbs:∀ b ∈ bs,b < w.heap.size) (W:World) (l:Nat) (o o' : Obj) (hl:w.heap.size <= l) (h:W.heap[l]? = some o) (hc:o.isCells = false) (hw:o.isWalk = false) :
  aAS n₀ bs W (W.putObj l o') :=
 ⟨belowK_b hn W l o o' hl h hc hw,fun b hb=>World.putObj_heap_other (by have:=hbs b hb; omega)⟩
end Go.Proofs.Ytgjcnbgfaimepaa
