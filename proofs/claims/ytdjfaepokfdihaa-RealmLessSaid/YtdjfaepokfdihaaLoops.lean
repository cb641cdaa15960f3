/- Loops over plain states: what they answer. -/
import Derived.Test.YtdjfaepokfdihaaVmFast3
import Derived.IntWalk
set_option linter.unusedVariables false
namespace Go.Proofs.Ytdjfaepokfdihaa
open Go.RowKit Vm

/-! numbers -/
theorem wrap_id {n : Int} (h1 : -9223372036854775808 ≤ n) (h2 : n ≤ 9223372036854775807) : IntKind.wrap .i64 n = n := IntWalk.i64_in n ⟨h1, h2⟩
theorem wrap_succ {n : Nat} (h : n < 9223372036854775807) : IntKind.wrap .i64 ((n : Int) + 1) = ((n + 1 : Nat) : Int) := by
  rw [wrap_id (by omega) (by omega)]; omega
theorem at?_nat {α : Type} (xs : List α) (i : Nat) : at? xs (i : Int) = xs[i]? := by
  unfold at?
  rw [if_pos (by omega)]
  simp
theorem at?_lt {α : Type} (xs : List α) (i : Nat) (h : i < xs.length) : at? xs (i : Int) = some xs[i] := by
  rw [at?_nat, List.getElem?_eq_getElem h]

/-! the first of some numbers that says something -/
def firstS {X : Type} (g : Nat → Option X) (fin : X) : Nat → Nat → X
  | _, 0 => fin
  | k, m + 1 => match g k with
    | some x => x
    | none => firstS g fin (k + 1) m
theorem firstS_congr {X : Type} {g g' : Nat → Option X} {fin fin' : X} : ∀ (m k : Nat), (∀ i, k ≤ i → i < k + m → g i = g' i) → fin = fin' → firstS g fin k m = firstS g' fin' k m
  | 0, k, _, e => e
  | m + 1, k, h, e => by
    simp only [firstS]
    rw [h k (Nat.le_refl _) (by omega)]
    cases g' k with
    | some x => rfl
    | none => exact firstS_congr m (k + 1) (fun i h1 h2 => h i (by omega) (by omega)) e
theorem firstS_none {X : Type} {g : Nat → Option X} {fin : X} : ∀ (m k : Nat), (∀ i, k ≤ i → i < k + m → g i = none) → firstS g fin k m = fin
  | 0, k, _ => rfl
  | m + 1, k, h => by
    simp only [firstS, h k (Nat.le_refl _) (by omega)]
    exact firstS_none m (k + 1) (fun i h1 h2 => h i (by omega) (by omega))
/-- it is the end, and nothing was said; or what was said first -/
theorem firstS_cases {X : Type} (g : Nat → Option X) (fin : X) : ∀ (m k : Nat), (firstS g fin k m = fin ∧ ∀ i, k ≤ i → i < k + m → g i = none) ∨ ∃ i x, k ≤ i ∧ i < k + m ∧ g i = some x ∧ firstS g fin k m = x ∧ ∀ j, k ≤ j → j < i → g j = none
  | 0, k => .inl ⟨rfl, fun i h1 h2 => by omega⟩
  | m + 1, k => by
    simp only [firstS]
    cases h : g k with
    | some x => exact .inr ⟨k, x, Nat.le_refl _, by omega, h, rfl, fun j h1 h2 => by omega⟩
    | none =>
      rcases firstS_cases g fin m (k + 1) with ⟨q1, q2⟩ | ⟨i, x, q1, q2, q3, q4, q5⟩
      · refine .inl ⟨q1, fun i h1 h2 => ?_⟩
        by_cases e : i = k
        · rw [e]; exact h
        · exact q2 i (by omega) (by omega)
      · refine .inr ⟨i, x, by omega, by omega, q3, q4, fun j h1 h2 => ?_⟩
        by_cases e : j = k
        · rw [e]; exact h
        · exact q5 j (by omega) h2

theorem iter_some {S X : Type} {step : S → Option (S ⊕ X)} {s s' : S} (h : step s = some (.inl s')) : Iter step s = Iter step s' := by
  rw [iter_eq, h]
theorem iter_end {S X : Type} {step : S → Option (S ⊕ X)} {s : S} {x : X} (h : step s = some (.inr x)) : Iter step s = some x := by
  rw [iter_eq, h]
/-- a loop that looks at number after number -/
theorem iter_scan {S X : Type} {step : S → Option (S ⊕ X)} (st : Nat → S) (n : Nat) (g : Nat → Option X) (fin : X)
    (h : ∀ i, i < n → step (st i) = some (match g i with | none => .inl (st (i + 1)) | some x => .inr x)) (he : step (st n) = some (.inr fin)) : Iter step (st 0) = some (firstS g fin 0 n) := by
  have key : ∀ (m k : Nat), k + m = n → Iter step (st k) = some (firstS g fin k m) := by
    intro m
    induction m with
    | zero => intro k hk; obtain rfl : k = n := (by omega); exact iter_end he
    | succ m ih =>
      intro k hk
      have h1 := h k (by omega)
      simp only [firstS]
      cases hg : g k with
      | some x => rw [hg] at h1; exact iter_end h1
      | none => rw [hg] at h1; exact (iter_some h1).trans (ih (k + 1) (by omega))
  exact key n 0 (by omega)
/-- a loop that goes through all -/
theorem iter_all {S X : Type} {step : S → Option (S ⊕ X)} (st : Nat → S) (n : Nat) (fin : X)
    (h : ∀ i, i < n → step (st i) = some (.inl (st (i + 1)))) (he : step (st n) = some (.inr fin)) : Iter step (st 0) = some fin := by
  have key : ∀ (m k : Nat), k + m = n → Iter step (st k) = some fin := by
    intro m
    induction m with
    | zero => intro k hk; obtain rfl : k = n := (by omega); exact iter_end he
    | succ m ih => intro k hk; exact (iter_some (h k (by omega))).trans (ih (k + 1) (by omega))
  exact key n 0 (by omega)
/-- a loop of which it is known what every round says, and what its end means -/
theorem iter_spec {S X : Type} {step : S → Option (S ⊕ X)} (st : Nat → S) (n : Nat) (G : Nat → Prop) (Q : X → Prop)
    (h : ∀ i, i < n → (step (st i) = some (.inl (st (i + 1))) ∧ G i) ∨ ∃ x, step (st i) = some (.inr x) ∧ ((∀ j, j < i → G j) → Q x))
    (he : ∃ x, step (st n) = some (.inr x) ∧ ((∀ j, j < n → G j) → Q x)) : ∃ x, Iter step (st 0) = some x ∧ Q x := by
  have key : ∀ (m k : Nat), k + m = n → (∀ j, j < k → G j) → ∃ x, Iter step (st k) = some x ∧ Q x := by
    intro m
    induction m with
    | zero =>
      intro k hk hG
      obtain rfl : k = n := (by omega)
      obtain ⟨x, h1, h2⟩ := he
      exact ⟨x, iter_end h1, h2 hG⟩
    | succ m ih =>
      intro k hk hG
      rcases h k (by omega) with ⟨h1, h2⟩ | ⟨x, h1, h2⟩
      · rw [iter_some h1]
        exact ih (k + 1) (by omega) fun j hj => by
          by_cases e : j = k
          · rw [e]; exact h2
          · exact hG j (by omega)
      · exact ⟨x, iter_end h1, h2 hG⟩
  exact key n 0 (by omega) fun j hj => by omega
/-! elements -/
def el {α : Type} [Inhabited α] (l : List α) (i : Nat) : α := l.getD i default
theorem el_lt {α : Type} [Inhabited α] (l : List α) (i : Nat) (h : i < l.length) : el l i = l[i] := by simp [el, h]
theorem el_mem {α : Type} [Inhabited α] (l : List α) (i : Nat) (h : i < l.length) : el l i ∈ l := by rw [el_lt l i h]; exact List.getElem_mem h
theorem at_el {α : Type} [Inhabited α] (l : List α) (i : Nat) (h : i < l.length) : at? l (i : Int) = some (el l i) := by rw [at?_lt l i h, el_lt l i h]
theorem at_eq {α : Type} [Inhabited α] (l : List α) (n : Int) (h0 : 0 ≤ n) (h : n < l.length) : at? l n = some (el l n.toNat) := by
  have := at_el l n.toNat (by omega)
  rwa [Int.toNat_of_nonneg h0] at this
theorem mem_el {α : Type} [Inhabited α] {l : List α} {x : α} (h : x ∈ l) : ∃ i, i < l.length ∧ el l i = x := by
  obtain ⟨i, hi, rfl⟩ := List.mem_iff_getElem.1 h
  exact ⟨i, hi, el_lt l i hi⟩
theorem lt_t {i n : Nat} (h : i < n) : (decide ((i : Int) < (n : Int)) = true) = True := by simp; omega
theorem lt_f (n : Nat) : (decide ((n : Int) < (n : Int)) = true) = False := by simp
end Go.Proofs.Ytdjfaepokfdihaa
