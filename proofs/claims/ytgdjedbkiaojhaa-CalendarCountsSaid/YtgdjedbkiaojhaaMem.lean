/- What memory holds: slices of ints. Below carries it. -/
import Derived.Test.YtgdjedbkiaojhaaKit
set_option linter.unusedVariables false
namespace Go.Proofs.Ytgdjedbkiaojhaa
open Go.RowKit

/-- the number at place j -/
def at0 (l : List Int) (j : Nat) : Int := l[j]?.getD 0
theorem at0_lt (l : List Int) (j : Nat) (h : j < l.length) : at0 l j = l[j] := by simp [at0, h]
/-- the slice value v reads as the ints xs -/
def Ints (w : World) (v : Value) (xs : List Int) : Prop :=
  xs.length ≤ 140737488355328 ∧
  ((∃ a c, v = .slice a 0 c ∧ xs = []) ∨ ∃ b off c, v = .slice (some ⟨b, off, none⟩) xs.length c ∧ ∀ j, j < xs.length → w.cell? ⟨b, off + j, none⟩ = some (.int .i64 (at0 xs j)))
theorem Ints.below {A B : World} {n : Nat} (h : Below A.heap.size A B) (_hn : n = 0) {v : Value} {xs : List Int} : Ints A v xs → Ints B v xs := by
  rintro ⟨hl, h0 | ⟨b, off, c, rfl, hc⟩⟩
  · exact ⟨hl, .inl h0⟩
  · exact ⟨hl, .inr ⟨b, off, c, rfl, fun j hj => (h.cell (p := ⟨b, off + j, none⟩) (World.block_lt_of_cell? A _ (hc j hj))).trans (hc j hj)⟩⟩
theorem Ints.to {A B : World} (h : Below A.heap.size A B) {v : Value} {xs : List Int} (hi : Ints A v xs) : Ints B v xs := Ints.below h (n := 0) rfl hi
theorem Ints.nil (w : World) (a : Option Addr) (c : Nat) : Ints w (.slice a 0 c) [] := ⟨by simp, .inl ⟨a, c, rfl, rfl⟩⟩

/-- the first place of x, -1 if there is none -/
def idx (x : Int) : List Int → Int
  | [] => -1
  | y :: r => if x = y then 0 else if idx x r = -1 then -1 else idx x r + 1
theorem idx_ge (x : Int) : ∀ l, -1 ≤ idx x l
  | [] => by simp [idx]
  | y :: r => by
    have := idx_ge x r
    unfold idx
    split
    · omega
    · split <;> omega
theorem idx_mem (x : Int) : ∀ l, (0 ≤ idx x l ↔ x ∈ l)
  | [] => by simp [idx]
  | y :: r => by
    have h := idx_mem x r
    have := idx_ge x r
    unfold idx
    by_cases e : x = y
    · simp [e]
    · rw [if_neg e]
      by_cases h1 : idx x r = -1
      · rw [if_pos h1]
        have : x ∉ r := fun hh => by have := h.2 hh; omega
        simp [e, this]
      · rw [if_neg h1]
        have : x ∈ r := h.1 (by omega)
        simp [this]; omega
theorem idx_at (x : Int) : ∀ (l : List Int) (k : Nat), k < l.length → at0 l k = x → (∀ j, j < k → at0 l j ≠ x) → idx x l = k
  | [], k, hk, _, _ => by simp at hk
  | y :: r, 0, _, he, _ => by simp [at0] at he; simp [idx, he]
  | y :: r, k + 1, hk, he, hn => by
    have h0 : y ≠ x := by simpa [at0] using hn 0 (by omega)
    have ih := idx_at x r k (by simpa using hk) (by simpa [at0] using he) (fun j hj => by simpa [at0] using hn (j + 1) (by omega))
    unfold idx
    rw [if_neg (fun e => h0 e.symm), ih, if_neg (by omega)]
    omega
theorem idx_none (x : Int) (l : List Int) (hn : ∀ j, j < l.length → at0 l j ≠ x) : idx x l = -1 := by
  have h := idx_mem x l
  have := idx_ge x l
  apply Classical.byContradiction
  intro hne
  have hm := h.1 (by omega)
  obtain ⟨j, hj, e⟩ := List.mem_iff_getElem.1 hm
  exact hn j hj (by simp [at0, hj, e])

set_option maxRecDepth 100000 in
/-- slices.Index at []int -/
theorem index_calls (v : Value) (x : Int) (xs : List Int) (w : World) (h : Ints w v xs) :
    Calls Try.prog 40 #[v, .int .i64 x] w fun e w' => e = .returned (.int .i64 (idx x xs)) ∧ w = w' := by
  obtain ⟨hl, ⟨a, c, rfl, rfl⟩ | ⟨b, off, c, rfl, hc⟩⟩ := h
  · clear hl
    go_enter Try.func40, Try.ntmps40
    go_wp2
    go_loop [5, 8] (fun i k => k = .int .i64 0) (fun _ _ => 0)
    case atStart => rfl
    case round =>
      obtain rfl := hrel
      go_wp2
      go_ret
      exact ⟨rfl, rfl⟩
  · go_enter Try.func40, Try.ntmps40
    go_wp2
    go_loop [5, 8] (fun i kv => ∃ k : Nat, k ≤ xs.length ∧ kv = .int .i64 k ∧ ∀ j, j < k → at0 xs j ≠ x) (fun _ k => xs.length - (intOf k).toNat)
    case atStart => exact ⟨0, Nat.zero_le _, rfl, fun j hj => by omega⟩
    case round =>
      obtain ⟨k, hk, rfl, hno⟩ := hrel
      have hnoH := Lib.hid hno
      have hcH := Lib.hid hc
      clear hc hno
      by_cases hlt : k < xs.length
      · have hck := hcH.out k hlt
        by_cases he : at0 xs k = x
        · have hid := Lib.hid (idx_at x xs k hlt he hnoH.out)
          have hb : (x == at0 xs k) = true := by simp [he]
          clear he
          generalize at0 xs k = y at *
          go_wp2
          go_ret
          exact ⟨ret1i hid.out.symm, rfl⟩
        · have hb : (x == at0 xs k) = false := by simpa using fun e => he e.symm
          have heH := Lib.hid he
          clear he
          go_wp2
          go_round
          case rel => exact ⟨k + 1, by omega, by go_num, fun j hj => by
            rcases (by omega : j < k ∨ j = k) with h | rfl
            · exact hnoH.out j h
            · exact heH.out⟩
          case measure => simp [intOf]; omega
      · obtain rfl : k = xs.length := by omega
        have hid := Lib.hid (idx_none x xs hnoH.out)
        go_wp2
        go_ret
        exact ⟨ret1i hid.out.symm, rfl⟩

/-- slices.Contains at []int -/
theorem contains_calls (v : Value) (x : Int) (xs : List Int) (w : World) (h : Ints w v xs) :
    Calls Try.prog 38 #[v, .int .i64 x] w fun e w' => e = .returned (.bool (decide (x ∈ xs))) ∧ w = w' := by
  have hm := Lib.hid (idx_mem x xs)
  have h := Lib.hid h
  go_enter Try.func38, Try.ntmps38
  go_wp2_with (go_at_call 40; refine (index_calls _ _ _ _ h.out).mono ?_; rintro e w' ⟨rfl, rfl⟩)
  go_ret
  exact ⟨ret1b (by simp only [← hm.out]), rfl⟩
theorem contains_is (v : Value) (x : Int) (xs : List Int) (p : Bool) (w : World) (h : Ints w v xs) (hp : decide (x ∈ xs) = p) :
    Calls Try.prog 38 #[v, .int .i64 x] w fun e w' => e = .returned (.bool p) ∧ w = w' := by
  subst hp; exact contains_calls v x xs w h
end Go.Proofs.Ytgdjedbkiaojhaa
