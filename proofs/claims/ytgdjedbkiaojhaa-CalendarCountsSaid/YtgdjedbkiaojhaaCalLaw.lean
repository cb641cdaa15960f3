/- Plain laws of the calendar: days and dates lead to each other; months. No program in sight. -/
import Derived.Test.YtgdjedbkiaojhaaCalMath
set_option linter.unusedVariables false
namespace Go.Proofs.Ytgdjedbkiaojhaa.Cal

/-- the first day of the month with the number t (12 times the year, and the months ahead of it) -/
def ms (t : Int) : Int := num (t / 12) (t % 12 + 1) 1
def ml (t : Int) : Int := len (t / 12) (t % 12 + 1)
theorem ml_bd (t : Int) : 28 ≤ ml t ∧ ml t ≤ 31 := len_bd _ _ (by omega) (by omega)
theorem ms_succ (t : Int) : ms (t + 1) = ms t + ml t := by
  unfold ms ml
  by_cases h : t % 12 = 11
  · have e1 : (t + 1) / 12 = t / 12 + 1 := by omega
    have e2 : (t + 1) % 12 = 0 := by omega
    rw [e1, e2, h]
    generalize t / 12 = y
    simp [num, len]; omega
  · have e1 : (t + 1) / 12 = t / 12 := by omega
    have e2 : (t + 1) % 12 = t % 12 + 1 := by omega
    rw [e1, e2]
    unfold len
    rw [if_neg (by omega)]; omega
theorem ms_add (t : Int) : ∀ n : Nat, ms t + 28 * n ≤ ms (t + n)
  | 0 => by simp
  | n + 1 => by
    have h := ms_add t n
    have h1 := ms_succ (t + n)
    have h2 := ml_bd (t + n)
    rw [show t + ((n + 1 : Nat) : Int) = t + n + 1 from by omega, h1]; omega
theorem ms_le {t u : Int} (h : t ≤ u) : ms t ≤ ms u := by
  obtain ⟨n, hn⟩ := Int.eq_ofNat_of_zero_le (show 0 ≤ u - t by omega)
  have := ms_add t n
  rw [show t + (n : Int) = u from by omega] at this; omega
theorem ms_lt {t u : Int} (h : t < u) : ms t + ml t ≤ ms u := by
  have := ms_le (show t + 1 ≤ u by omega)
  rw [ms_succ] at this; exact this
theorem num_ms (y m k : Int) (h1 : 1 ≤ m) (h2 : m ≤ 12) : num y m k = ms (12 * y + m - 1) + k - 1 := by
  unfold ms
  rw [show (12 * y + m - 1) / 12 = y from by omega, show (12 * y + m - 1) % 12 + 1 = m from by omega]
  unfold num; split <;> omega
theorem ml_ms (y m : Int) (h1 : 1 ≤ m) (h2 : m ≤ 12) : ml (12 * y + m - 1) = len y m := by
  unfold ml; rw [show (12 * y + m - 1) / 12 = y from by omega, show (12 * y + m - 1) % 12 + 1 = m from by omega]
/-- a day lies in one month -/
theorem ms_inj {t u a b : Int} (ha : 1 ≤ a ∧ a ≤ ml t) (hb : 1 ≤ b ∧ b ≤ ml u) (h : ms t + a = ms u + b) : t = u ∧ a = b := by
  have : t = u := by
    apply Classical.byContradiction; intro hne
    rcases (by omega : t < u ∨ u < t) with h1 | h1
    · have := ms_lt h1; omega
    · have := ms_lt h1; omega
  subst this; exact ⟨rfl, by omega⟩
/-- the number of a day's month -/
def mt (d : Int) : Int := 12 * cvY d + cvM d - 1
theorem cv_ms (d : Int) (h : okDay d) : d = ms (mt d) + cvD d - 1 ∧ 1 ≤ cvD d ∧ cvD d ≤ ml (mt d) ∧ cvY d = mt d / 12 ∧ cvM d = mt d % 12 + 1 ∧ 24000 ≤ mt d ∧ mt d ≤ 27300 := by
  obtain ⟨b1, b2, b3, b4, b5, b6⟩ := cv_bd d h.1 h.2
  have hn := num_cv d h.1 (by have := h.2; omega)
  rw [num_ms _ _ _ b1 b2] at hn
  have hl := ml_ms (cvY d) (cvM d) b1 b2
  unfold mt
  exact ⟨by omega, b3, by omega, by omega, by omega, by omega, by omega⟩
/-- the date of the day of a date -/
theorem cv_of (t k d : Int) (hk : 1 ≤ k ∧ k ≤ ml t) (h : okDay d) (hd : d = ms t + k - 1) : mt d = t ∧ cvD d = k ∧ cvY d = t / 12 ∧ cvM d = t % 12 + 1 := by
  obtain ⟨c1, c2, c3, c4, c5, _, _⟩ := cv_ms d h
  obtain ⟨e1, e2⟩ := ms_inj (t := mt d) (u := t) ⟨c2, c3⟩ hk (by omega)
  rw [e1] at c4 c5
  exact ⟨e1, e2, c4, c5⟩
theorem cv_num (y m k : Int) (h : okDate y m k) (h2 : okDay (num y m k)) : cvY (num y m k) = y ∧ cvM (num y m k) = m ∧ cvD (num y m k) = k := by
  obtain ⟨a1, a2, a3, a4, a5, a6⟩ := h
  have hl := ml_ms y m a3 a4
  obtain ⟨_, e2, e3, e4⟩ := cv_of (12 * y + m - 1) k (num y m k) ⟨a5, by omega⟩ h2 (num_ms y m k a3 a4)
  exact ⟨by omega, by omega, e2⟩
theorem day_cv (d : Int) (h : okDay d) : dayV (cvY d) (cvM d) (cvD d) = d ∧ dayE (cvY d) (cvM d) (cvD d) = 0 := by
  obtain ⟨b1, b2, b3, b4, b5, b6⟩ := cv_bd d h.1 h.2
  have hn := num_cv d h.1 (by have := h.2; omega)
  have hc : okDate (cvY d) (cvM d) (cvD d) ∧ okDay (num (cvY d) (cvM d) (cvD d)) := ⟨⟨b5, by omega, b1, b2, b3, b4⟩, by rw [hn]; exact h⟩
  unfold dayV dayE
  rw [if_pos hc, if_pos hc, hn]; exact ⟨rfl, rfl⟩
/-- the next day's date -/
theorem cv_next (d : Int) (h : okDay d) (h9 : d < 100000) :
    (cvY (d + 1) = cvY d ∧ cvM (d + 1) = cvM d ∧ cvD (d + 1) = cvD d + 1) ∨
    (cvD (d + 1) = 1 ∧ (cvY d < cvY (d + 1) ∨ (cvY (d + 1) = cvY d ∧ cvM d < cvM (d + 1)))) := by
  obtain ⟨c1, c2, c3, c4, c5, _, _⟩ := cv_ms d h
  have h1 : okDay (d + 1) := ⟨by have := h.1; omega, by omega⟩
  by_cases hl : cvD d < ml (mt d)
  · obtain ⟨e1, e2, e3, e4⟩ := cv_of (mt d) (cvD d + 1) (d + 1) ⟨by omega, by omega⟩ h1 (by omega)
    exact .inl ⟨by omega, by omega, e2⟩
  · obtain ⟨e1, e2, e3, e4⟩ := cv_of (mt d + 1) 1 (d + 1) ⟨by omega, by have := ml_bd (mt d + 1); omega⟩ h1 (by rw [ms_succ]; omega)
    exact .inr ⟨e2, by omega⟩
end Go.Proofs.Ytgdjedbkiaojhaa.Cal
