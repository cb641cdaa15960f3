/- The kit's texts on a range over a function; small lemmas on blocks. -/
import Derived.Test.YtgdjedbkiaojhaaMem
import Derived.RangeFuncNested
import Derived.RangeFuncBound
import Derived.RangeFuncCalls
import Derived.RangeFuncLeaves
import Derived.RangeFuncBox
import Derived.Shelf.Abstract
import Derived.Shelf.RegionOpen
import Derived.OwnWalkIn
import Derived.TacticsInMore
import Derived.LoopNIn
import Derived.LoopIn
set_option linter.unusedVariables false
namespace Go.Proofs.Ytgdjedbkiaojhaa
open Go.RowKit Go.Shelf

theorem grown_of_below {a b : World} (h : Below a.heap.size a b) (row : Option Nat) : a.grownBy b row :=
  ⟨h.os, h.tape, h.output, h.size, fun i hi _ => h.block i hi⟩
/-- a block of cells: its cells -/
theorem cell_of_blk {W : World} {b : Nat} {cs : Array Value} {t : TypeId} {o : Nat} {v : Value} (h : W.heap[b]? = some (.cells cs t)) (hv : cs[o]? = some v) : W.cell? ⟨b, o, none⟩ = some v := by
  simp [World.cell?, h, hv]
theorem frozen_of_blk {W : World} {b : Nat} {cs : Array Value} {t : TypeId} {o : Nat} (h : W.heap[b]? = some (.cells cs t)) : W.frozen? ⟨b, o, none⟩ = false := by
  simp [World.frozen?, h]
theorem blk_to {A B : World} (h : Below A.heap.size A B) {b : Nat} {o : Obj} (hb : A.heap[b]? = some o) : B.heap[b]? = some o :=
  (h.block b (Array.getElem?_eq_some_iff.1 hb).1).trans hb
theorem alloc3 (w W : World) (a b c : Obj) (hW : ((w.alloc a).alloc b).alloc c = W) :
    W.heap.size = w.heap.size + 3 ∧ W.heap[w.heap.size]? = some a ∧ W.heap[w.heap.size + 1]? = some b ∧ W.heap[w.heap.size + 1 + 1]? = some c ∧ Below w.heap.size w W := by
  subst hW
  refine ⟨by simp, ?_, ?_, ?_, ((((Below.refl _ _).alloc (Nat.le_refl _) _).alloc (by simp) _).alloc (by simp; omega) _)⟩
  all_goals
    simp only [World.alloc, Array.getElem?_push, Array.size_push]
    first
      | (simp; done)
      | (rw [if_neg (by omega), if_neg (by omega)]; simp)
/-- a literal slice of ints -/
theorem Ints.lit {w : World} {b t : Nat} (xs : List Int) (h : w.heap[b]? = some (.cells (xs.map (Value.int .i64)).toArray t)) (hl : xs.length ≤ 140737488355328) (c : Nat) :
    Ints w (.slice (some ⟨b, 0, none⟩) xs.length c) xs :=
  ⟨hl, .inr ⟨b, 0, c, rfl, fun j hj => by rw [at0_lt xs j hj, Nat.zero_add]; exact cell_of_blk h (by simp [hj])⟩⟩
/-- what the rounds keep: all that lay below n₀, and the iterator's own boxes -/
def KpBox (n₀ : Nat) (bs : List Nat) (A B : World) : Prop := Below n₀ A B ∧ ∀ b ∈ bs, B.heap[b]? = A.heap[b]?
theorem KpBox.t {n₀ : Nat} {bs : List Nat} {A B C : World} (h : KpBox n₀ bs A B) (k : KpBox n₀ bs B C) : KpBox n₀ bs A C :=
  ⟨h.1.trans k.1, fun b hb => (k.2 b hb).trans (h.2 b hb)⟩
theorem KpBox.b {n₀ : Nat} {bs : List Nat} {w : World} (hn : n₀ ≤ w.heap.size) (hbs : ∀ b ∈ bs, b < w.heap.size) (W : World) (l : Nat) (o o' : Obj) (hl : w.heap.size ≤ l) (h : W.heap[l]? = some o) (hc : o.isCells = false) (hw : o.isWalk = false) :
    KpBox n₀ bs W (W.putObj l o') :=
  ⟨belowK_b hn W l o o' hl h hc hw, fun b hb => World.putObj_heap_other (by have := hbs b hb; omega)⟩
theorem alloc6 (w W : World) (a b c d e f : Obj) (hW : (((((w.alloc a).alloc b).alloc c).alloc d).alloc e).alloc f = W) :
    W.heap.size = w.heap.size + 6 ∧ W.heap[w.heap.size]? = some a ∧ W.heap[w.heap.size + 1]? = some b ∧ W.heap[w.heap.size + 1 + 1]? = some c ∧ W.heap[w.heap.size + 1 + 1 + 1]? = some d ∧
    W.heap[w.heap.size + 1 + 1 + 1 + 1]? = some e ∧ W.heap[w.heap.size + 1 + 1 + 1 + 2]? = some f ∧ Below w.heap.size w W := by
  subst hW
  refine ⟨by simp, ?_, ?_, ?_, ?_, ?_, ?_, (((((((Below.refl _ _).alloc (Nat.le_refl _) _).alloc (by simp) _).alloc (by simp; omega) _).alloc (by simp; omega) _).alloc (by simp; omega) _).alloc (by simp; omega) _)⟩
  all_goals
    simp only [World.alloc, Array.getElem?_push, Array.size_push]
    first
      | (simp; done)
      | (rw [if_neg (by omega), if_neg (by omega), if_neg (by omega), if_neg (by omega), if_neg (by omega)]; simp)
theorem alloc5 (w W : World) (a b c d e : Obj) (hW : ((((w.alloc a).alloc b).alloc c).alloc d).alloc e = W) :
    W.heap.size = w.heap.size + 5 ∧ W.heap[w.heap.size]? = some a ∧ W.heap[w.heap.size + 1]? = some b ∧ W.heap[w.heap.size + 1 + 1]? = some c ∧ W.heap[w.heap.size + 1 + 1 + 1]? = some d ∧
    W.heap[w.heap.size + 1 + 1 + 2]? = some e ∧ Below w.heap.size w W := by
  subst hW
  refine ⟨by simp, ?_, ?_, ?_, ?_, ?_, ((((((Below.refl _ _).alloc (Nat.le_refl _) _).alloc (by simp) _).alloc (by simp; omega) _).alloc (by simp; omega) _).alloc (by simp; omega) _)⟩
  all_goals
    simp only [World.alloc, Array.getElem?_push, Array.size_push]
    first
      | (simp; done)
      | (rw [if_neg (by omega), if_neg (by omega), if_neg (by omega), if_neg (by omega)]; simp)
/-- a cell of a block of one cell, and its mark, behind the turn of a block that is no cells -/
theorem one_kept {W W' : World} {row : Option Nat} {b : Nat} {v : Value} (h : W.cell? ⟨b, 0, none⟩ = some v ∧ W.frozen? ⟨b, 0, none⟩ = false) (hg : W.grownBy W' row) (hrow : ∀ r, row = some r → ∃ o : Obj, W.heap[r]? = some o ∧ o.isCells = false) :
    W'.cell? ⟨b, 0, none⟩ = some v ∧ W'.frozen? ⟨b, 0, none⟩ = false := ⟨cell_kept h.1 hg hrow, (frozen_kept h.1 hg hrow).trans h.2⟩
/-- two stores into two blocks of one cell -/
theorem two_stores (W : World) (p q : Nat) (hpq : p ≠ q) {u1 u2 : Value} (v1 v2 : Value) (h1 : W.cell? ⟨p, 0, none⟩ = some u1 ∧ W.frozen? ⟨p, 0, none⟩ = false) (h2 : W.cell? ⟨q, 0, none⟩ = some u2 ∧ W.frozen? ⟨q, 0, none⟩ = false) :
    (((W.setCell ⟨p, 0, none⟩ v1).setCell ⟨q, 0, none⟩ v2).cell? ⟨p, 0, none⟩ = some v1 ∧ ((W.setCell ⟨p, 0, none⟩ v1).setCell ⟨q, 0, none⟩ v2).frozen? ⟨p, 0, none⟩ = false) ∧
    (((W.setCell ⟨p, 0, none⟩ v1).setCell ⟨q, 0, none⟩ v2).cell? ⟨q, 0, none⟩ = some v2 ∧ ((W.setCell ⟨p, 0, none⟩ v1).setCell ⟨q, 0, none⟩ v2).frozen? ⟨q, 0, none⟩ = false) := by
  have e1 : (W.setCell ⟨p, 0, none⟩ v1).cell? ⟨p, 0, none⟩ = some v1 := World.cell?_setCell_same' _ _ _ (by rw [h1.1]; rfl)
  have e2 : (W.setCell ⟨p, 0, none⟩ v1).cell? ⟨q, 0, none⟩ = some u2 := (World.cell?_setCell_far _ _ _ _ hpq).trans h2.1
  refine ⟨⟨(World.cell?_setCell_far _ _ _ _ (fun h => hpq h.symm)).trans e1, ?_⟩, World.cell?_setCell_same' _ _ _ (by rw [e2]; rfl), ?_⟩
  · rw [World.frozen?_setCell, World.frozen?_setCell]; exact h1.2
  · rw [World.frozen?_setCell, World.frozen?_setCell]; exact h2.2
end Go.Proofs.Ytgdjedbkiaojhaa
