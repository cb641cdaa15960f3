/- More about loops over plain states: first findings, errors, sums of findings. -/
import Derived.Test.YtdjfaepokfdihaaLoops
set_option linter.unusedVariables false
namespace Go.Proofs.Ytdjfaepokfdihaa
open Go.RowKit Vm

/-- the first thing that is said -/
def firstO {X : Type} (g : Nat → Option X) : Nat → Nat → Option X
  | _, 0 => none
  | k, m + 1 => match g k with
    | some x => some x
    | none => firstO g (k + 1) m
def toS {A X : Type} (a : A) : Option X → A ⊕ X
  | none => .inl a
  | some x => .inr x
theorem elim_toS {A X C : Type} (f : A → C) (h : X → C) (a : A) (o : Option X) : Sum.elim f h (toS a o) = (match o with | none => f a | some x => h x) := by
  cases o <;> rfl
theorem toS_none {A X : Type} (a : A) : toS a (none : Option X) = .inl a := rfl
theorem toS_some {A X : Type} (a : A) (x : X) : toS a (some x) = .inr x := rfl
theorem firstO_congr {X : Type} {g g' : Nat → Option X} : ∀ (m k : Nat), (∀ i, k ≤ i → i < k + m → g i = g' i) → firstO g k m = firstO g' k m
  | 0, k, _ => rfl
  | m + 1, k, h => by
    simp only [firstO]
    rw [h k (Nat.le_refl _) (by omega)]
    cases g' k with
    | some x => rfl
    | none => exact firstO_congr m (k + 1) (fun i h1 h2 => h i (by omega) (by omega))
theorem firstO_none {X : Type} {g : Nat → Option X} : ∀ (m k : Nat), firstO g k m = none ↔ ∀ i, k ≤ i → i < k + m → g i = none
  | 0, k => ⟨fun _ i h1 h2 => by omega, fun _ => rfl⟩
  | m + 1, k => by
    simp only [firstO]
    cases h : g k with
    | some x => exact ⟨(fun e => nomatch e), fun q => by have := q k (Nat.le_refl _) (by omega); rw [h] at this; cases this⟩
    | none =>
      rw [firstO_none m (k + 1)]
      exact ⟨fun q i h1 h2 => by
        by_cases e : i = k
        · rw [e]; exact h
        · exact q i (by omega) (by omega), fun q i h1 h2 => q i (by omega) (by omega)⟩
theorem firstO_some {X : Type} {g : Nat → Option X} {x : X} : ∀ (m k : Nat), firstO g k m = some x → ∃ i, k ≤ i ∧ i < k + m ∧ g i = some x ∧ ∀ j, k ≤ j → j < i → g j = none
  | 0, k => fun e => nomatch e
  | m + 1, k => by
    simp only [firstO]
    cases h : g k with
    | some y => exact fun e => ⟨k, Nat.le_refl _, by omega, by rw [h]; exact e, fun j h1 h2 => by omega⟩
    | none =>
      intro e
      obtain ⟨i, h1, h2, h3, h4⟩ := firstO_some m (k + 1) e
      exact ⟨i, by omega, by omega, h3, fun j q1 q2 => by
        by_cases e : j = k
        · rw [e]; exact h
        · exact h4 j (by omega) q2⟩
theorem firstO_at {X : Type} {g : Nat → Option X} {x : X} (m i : Nat) (hi : i < m) (h : g i = some x) (hb : ∀ j, j < i → g j = none) : firstO g 0 m = some x := by
  cases e : firstO g 0 m with
  | none => have := (firstO_none m 0).1 e i (Nat.zero_le _) (by omega); rw [h] at this; cases this
  | some y =>
    obtain ⟨k, _, h2, h3, h4⟩ := firstO_some m 0 e
    have : k = i := by
      rcases Nat.lt_trichotomy k i with q | q | q
      · rw [hb k q] at h3; cases h3
      · exact q
      · have := h4 i (Nat.zero_le _) q; rw [h] at this; cases this
    subst this
    rw [h] at h3; rw [← h3]
/-- a loop that looks at number after number -/
theorem iter_first {S A X : Type} {step : S → Option (S ⊕ (A ⊕ X))} (st : Nat → S) (n : Nat) (g : Nat → Option X) (fin : A)
    (h : ∀ i, i < n → step (st i) = some (match g i with | none => .inl (st (i + 1)) | some x => .inr (.inr x))) (he : step (st n) = some (.inr (.inl fin))) : Iter step (st 0) = some (toS fin (firstO g 0 n)) := by
  have key : ∀ (m k : Nat), k + m = n → Iter step (st k) = some (toS fin (firstO g k m)) := by
    intro m
    induction m with
    | zero => intro k hk; obtain rfl : k = n := (by omega); exact iter_end he
    | succ m ih =>
      intro k hk
      have h1 := h k (by omega)
      simp only [firstO]
      cases hg : g k with
      | some x => rw [hg] at h1; exact iter_end h1
      | none => rw [hg] at h1; exact (iter_some h1).trans (ih (k + 1) (by omega))
  exact key n 0 (by omega)
/-- the same, with a finding that ends it in another way -/
theorem iter_flip {S A X : Type} {step : S → Option (S ⊕ (X ⊕ A))} (st : Nat → S) (n : Nat) (g : Nat → Option X) (fin : A)
    (h : ∀ i, i < n → step (st i) = some (match g i with | none => .inl (st (i + 1)) | some x => .inr (.inl x))) (he : step (st n) = some (.inr (.inr fin))) : Iter step (st 0) = some (toS fin (firstO g 0 n)).swap := by
  have key : ∀ (m k : Nat), k + m = n → Iter step (st k) = some (toS fin (firstO g k m)).swap := by
    intro m
    induction m with
    | zero => intro k hk; obtain rfl : k = n := (by omega); exact iter_end he
    | succ m ih =>
      intro k hk
      have h1 := h k (by omega)
      simp only [firstO]
      cases hg : g k with
      | some x => rw [hg] at h1; exact iter_end h1
      | none => rw [hg] at h1; exact (iter_some h1).trans (ih (k + 1) (by omega))
  exact key n 0 (by omega)

/-! errors: the first that is none of 0 -/
def errN (g : Nat → Int) (n : Nat) : Int := (firstO (fun i => if g i = 0 then none else some (g i)) 0 n).getD 0
def errO (g : Nat → Int) (n : Nat) : Option Int := firstO (fun i => if g i = 0 then none else some (g i)) 0 n
def errS {S : Type} (x : S) (e : Int) : S ⊕ (Unit ⊕ Int) := if e = 0 then .inl x else .inr (.inr e)
theorem iter_errO {S : Type} {step : S → Option (S ⊕ (Unit ⊕ Int))} (st : Nat → S) (n : Nat) (g : Nat → Int)
    (h : ∀ i, i < n → step (st i) = some (errS (st (i + 1)) (g i))) (he : step (st n) = some (.inr (.inl ()))) : Iter step (st 0) = some (toS () (errO g n)) :=
  iter_first st n (fun i => if g i = 0 then none else some (g i)) () (fun i hi => by rw [h i hi]; unfold errS; by_cases e : g i = 0 <;> simp [e]) he
theorem elim_errO (g : Nat → Int) (n : Nat) (k : Option Int) : Sum.elim (fun _ => k) (fun z => some z) (toS () (errO g n)) = if errN g n = 0 then k else some (errN g n) := by
  unfold errN errO
  cases h : firstO (fun i => if g i = 0 then none else some (g i)) 0 n with
  | none => rfl
  | some x =>
    obtain ⟨i, _, _, h3, _⟩ := firstO_some n 0 h
    have : x ≠ 0 := by
      split at h3
      · cases h3
      · rename_i hn; cases h3; exact hn
    simp [toS, this]
theorem errN_congr {g g' : Nat → Int} {n : Nat} (h : ∀ i, i < n → g i = g' i) : errN g n = errN g' n := by
  unfold errN
  rw [firstO_congr n 0 (fun i _ h2 => by rw [h i (by omega)])]
theorem errN_zero {g : Nat → Int} {n : Nat} : errN g n = 0 ↔ ∀ i, i < n → g i = 0 := by
  unfold errN
  constructor
  · intro e i hi
    cases h : firstO (fun i => if g i = 0 then none else some (g i)) 0 n with
    | none =>
      have := (firstO_none n 0).1 h i (Nat.zero_le _) (by omega)
      split at this
      · assumption
      · cases this
    | some x =>
      rw [h] at e
      obtain ⟨k, _, _, h3, _⟩ := firstO_some n 0 h
      split at h3
      · cases h3
      · rename_i hn; cases h3; exact absurd e hn
  · intro h
    rw [(firstO_none n 0).2 fun i _ h2 => by rw [if_pos (h i (by omega))]]
    rfl
theorem elim_err {A : Type} (a : A) (o : Option Int) : Sum.elim (fun _ => some (0 : Int)) (fun z => some z) (toS a o) = some (o.getD 0) := by
  cases o <;> rfl
/-! all -/
def allN (p : Nat → Bool) : Nat → Bool
  | 0 => true
  | n + 1 => allN p n && p n
theorem allN_iff {p : Nat → Bool} : ∀ {n : Nat}, allN p n = true ↔ ∀ i, i < n → p i = true
  | 0 => ⟨fun _ i h => by omega, fun _ => rfl⟩
  | n + 1 => by
    simp only [allN, Bool.and_eq_true, allN_iff (n := n)]
    exact ⟨fun h i hi => by
      by_cases e : i = n
      · rw [e]; exact h.2
      · exact h.1 i (by omega), fun h => ⟨fun i hi => h i (by omega), h n (by omega)⟩⟩
theorem allN_congr {p q : Nat → Bool} {n : Nat} (h : ∀ i, i < n → p i = q i) : allN p n = allN q n := by
  rw [Bool.eq_iff_iff, allN_iff, allN_iff]
  exact ⟨fun a i hi => by rw [← h i hi]; exact a i hi, fun a i hi => by rw [h i hi]; exact a i hi⟩
theorem allN_and (p q : Nat → Bool) (n : Nat) : allN (fun i => p i && q i) n = (allN p n && allN q n) := by
  rw [Bool.eq_iff_iff, Bool.and_eq_true, allN_iff, allN_iff, allN_iff]
  simp only [Bool.and_eq_true]
  exact ⟨fun a => ⟨fun i hi => (a i hi).1, fun i hi => (a i hi).2⟩, fun a i hi => ⟨a.1 i hi, a.2 i hi⟩⟩
theorem firstO_unit (p : Nat → Bool) : ∀ (n : Nat), firstO (fun i => if p i = true then none else some ()) 0 n = if allN p n = true then none else some () := by
  intro n
  by_cases h : allN p n = true
  · rw [if_pos h, (firstO_none n 0).2]
    intro i _ hi
    rw [if_pos (allN_iff.1 h i (by omega))]
  · rw [if_neg h]
    cases e : firstO (fun i => if p i = true then none else some ()) 0 n with
    | some x => rfl
    | none =>
      exfalso; apply h
      rw [allN_iff]
      intro i hi
      have := (firstO_none n 0).1 e i (Nat.zero_le _) (by omega)
      split at this
      · assumption
      · cases this
/-- a loop that asks whether all are right -/
theorem iter_all? {S A : Type} {step : S → Option (S ⊕ (A ⊕ Unit))} (st : Nat → S) (n : Nat) (p : Nat → Bool) (fin : A)
    (h : ∀ i, i < n → step (st i) = some (if p i = true then .inl (st (i + 1)) else .inr (.inr ()))) (he : step (st n) = some (.inr (.inl fin))) : Iter step (st 0) = some (if allN p n = true then .inl fin else .inr ()) := by
  rw [iter_first st n (fun i => if p i = true then none else some ()) fin (fun i hi => by rw [h i hi]; cases p i <;> rfl) he, firstO_unit]
  cases allN p n <;> rfl
end Go.Proofs.Ytdjfaepokfdihaa
