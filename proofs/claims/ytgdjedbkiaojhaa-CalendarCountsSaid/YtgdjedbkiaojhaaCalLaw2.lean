/- Plain laws of the calendar: months that are added. No program in sight. -/
import Derived.Test.YtgdjedbkiaojhaaCalLaw
set_option linter.unusedVariables false
namespace Go.Proofs.Ytgdjedbkiaojhaa.Cal

/-- the day that is n months later, were there no bounds -/
def shift (d n : Int) : Int := ms (mt d + n) + min (cvD d) (ml (mt d + n)) - 1
theorem ms_0 : ms 24000 = 0 := by decide
theorem ms_9 : 100000 < ms 27612 := by decide
theorem ok_range (t k : Int) (h1 : 1 ≤ k) (h2 : k ≤ ml t) (h : okDay (ms t + k - 1)) : 24000 ≤ t ∧ t ≤ 27611 := by
  obtain ⟨a, b⟩ := h
  constructor
  · apply Classical.byContradiction; intro hn
    have := ms_lt (show t < 24000 by omega)
    rw [ms_0] at this; omega
  · apply Classical.byContradiction; intro hn
    have := ms_le (show 27612 ≤ t by omega)
    have := ms_9; omega
theorem add_iff (d n : Int) (hd : okDay d) (h1 : -5000 ≤ n) (h2 : n ≤ 5000) :
    (okDay (shift d n) → addV d n = shift d n ∧ addE d n = 0 ∧ mt (shift d n) = mt d + n ∧ cvD (shift d n) = min (cvD d) (ml (mt d + n))) ∧ (¬ okDay (shift d n) → addV d n = 0 ∧ addE d n = 3) := by
  obtain ⟨c1, c2, c3, c4, c5, c6, c7⟩ := cv_ms d hd
  have hl := ml_bd (mt d + n)
  have hk1 : 1 ≤ min (cvD d) (ml (mt d + n)) := by omega
  have hk2 : min (cvD d) (ml (mt d + n)) ≤ ml (mt d + n) := by omega
  have hA : ∀ f, addAt d n f = f ((mt d + n) / 12) ((mt d + n) % 12 + 1) (min (cvD d) (ml (mt d + n))) := fun f => by
    unfold addAt ml mt
    rw [show 12 * cvY d + cvM d - 1 + n = 12 * cvY d + cvM d - 1 + n from rfl]
  have hnum : num ((mt d + n) / 12) ((mt d + n) % 12 + 1) (min (cvD d) (ml (mt d + n))) = shift d n := by
    rw [num_ms _ _ _ (by omega) (by omega), show 12 * ((mt d + n) / 12) + ((mt d + n) % 12 + 1) - 1 = mt d + n from by omega]; rfl
  have hc : okDay d ∧ -5000 ≤ n ∧ n ≤ 5000 := ⟨hd, h1, h2⟩
  unfold addV addE
  rw [if_pos hc, if_pos hc, hA, hA]
  unfold dayV dayE
  rw [hnum]
  constructor
  · intro hs
    obtain ⟨r1, r2⟩ := ok_range _ _ hk1 hk2 hs
    have hcc : okDate ((mt d + n) / 12) ((mt d + n) % 12 + 1) (min (cvD d) (ml (mt d + n))) ∧ okDay (shift d n) :=
      ⟨⟨by omega, by omega, by omega, by omega, hk1, hk2⟩, hs⟩
    rw [if_pos hcc, if_pos hcc]
    obtain ⟨e1, e2, _, _⟩ := cv_of (mt d + n) _ (shift d n) ⟨hk1, hk2⟩ hs rfl
    exact ⟨rfl, rfl, e1, e2⟩
  · intro hs
    have hcc : ¬ (okDate ((mt d + n) / 12) ((mt d + n) % 12 + 1) (min (cvD d) (ml (mt d + n))) ∧ okDay (shift d n)) := fun h => hs h.2
    rw [if_neg hcc, if_neg hcc]; exact ⟨rfl, rfl⟩
theorem add_out (d n : Int) (h : ¬ (okDay d ∧ -5000 ≤ n ∧ n ≤ 5000)) : addV d n = 0 ∧ addE d n = 3 := by
  unfold addV addE; rw [if_neg h, if_neg h]; exact ⟨rfl, rfl⟩
/-- an addition has an answer, or it is (0, 3) -/
theorem add_cases (d n : Int) : (addE d n = 0 ∧ okDay d ∧ -5000 ≤ n ∧ n ≤ 5000 ∧ okDay (shift d n) ∧ addV d n = shift d n ∧ mt (shift d n) = mt d + n ∧ cvD (shift d n) = min (cvD d) (ml (mt d + n))) ∨ (addE d n = 3 ∧ addV d n = 0) := by
  by_cases h : okDay d ∧ -5000 ≤ n ∧ n ≤ 5000
  · obtain ⟨h0, h1, h2⟩ := h
    have hi := add_iff d n h0 h1 h2
    by_cases hs : okDay (shift d n)
    · obtain ⟨e1, e2, e3, e4⟩ := hi.1 hs
      exact .inl ⟨e2, h0, h1, h2, hs, e1, e3, e4⟩
    · exact .inr ⟨(hi.2 hs).2, (hi.2 hs).1⟩
  · exact .inr ⟨(add_out d n h).2, (add_out d n h).1⟩
/-- one after the other leads where all at once does -/
theorem add_add (d a b : Int) (ha : addE d a = 0) (h28 : cvD d ≤ 28) : addV (addV d a) b = addV d (a + b) ∧ addE (addV d a) b = addE d (a + b) := by
  rcases add_cases d a with ⟨_, h0, h1, h2, hs, e1, e3, e4⟩ | ⟨h, _⟩
  · obtain ⟨c1, c2, c3, c4, c5, c6, c7⟩ := cv_ms d h0
    obtain ⟨g1, g2, g3, g4, g5, g6, g7⟩ := cv_ms _ hs
    have hl := ml_bd (mt d + a)
    have hl2 := ml_bd (mt d + (a + b))
    rw [e1]
    have hsh : shift (shift d a) b = shift d (a + b) := by
      unfold shift
      rw [show ms (mt d + a) + min (cvD d) (ml (mt d + a)) - 1 = shift d a from rfl, e3, e4, show mt d + a + b = mt d + (a + b) from by omega]
      omega
    by_cases hok : okDay (shift d (a + b))
    · obtain ⟨r1, r2⟩ := ok_range (mt d + (a + b)) (min (cvD d) (ml (mt d + (a + b)))) (by omega) (by omega) hok
      obtain ⟨u1, u2, _, _⟩ := (add_iff d (a + b) h0 (by omega) (by omega)).1 hok
      obtain ⟨w1, w2, _, _⟩ := (add_iff (shift d a) b hs (by omega) (by omega)).1 (by rw [hsh]; exact hok)
      exact ⟨by rw [w1, u1, hsh], by rw [w2, u2]⟩
    · have k1 : addV d (a + b) = 0 ∧ addE d (a + b) = 3 := by
        by_cases h : okDay d ∧ -5000 ≤ a + b ∧ a + b ≤ 5000
        · exact (add_iff d (a + b) h.1 h.2.1 h.2.2).2 hok
        · exact add_out _ _ h
      have k2 : addV (shift d a) b = 0 ∧ addE (shift d a) b = 3 := by
        by_cases h : okDay (shift d a) ∧ -5000 ≤ b ∧ b ≤ 5000
        · exact (add_iff (shift d a) b h.1 h.2.1 h.2.2).2 (by rw [hsh]; exact hok)
        · exact add_out _ _ h
      exact ⟨by rw [k1.1, k2.1], by rw [k1.2, k2.2]⟩
  · omega
theorem shift_mono (d d' a : Int) (h : okDay d) (h' : okDay d') (hle : d ≤ d') : shift d a ≤ shift d' a := by
  obtain ⟨c1, c2, c3, c4, c5, c6, c7⟩ := cv_ms d h
  obtain ⟨g1, g2, g3, g4, g5, g6, g7⟩ := cv_ms d' h'
  unfold shift
  rcases (by omega : mt d < mt d' ∨ mt d = mt d' ∨ mt d' < mt d) with hm | hm | hm
  · have := ms_lt (show mt d + a < mt d' + a by omega)
    have := ml_bd (mt d' + a); omega
  · rw [hm]
    rw [hm] at c1
    omega
  · have := ms_lt hm; omega
/-- all that the law CalendarMonths says of days, months and their sums -/
theorem months_law (d a : Int) (h : addE d a = 0) :
    okDay d ∧ okDay (addV d a) ∧ 12 * cvY (addV d a) + cvM (addV d a) = 12 * cvY d + cvM d + a ∧ cvD (addV d a) ≤ cvD d ∧ (cvD d ≤ 28 → cvD (addV d a) = cvD d) ∧
    ∀ m, 0 ≤ m → m ≤ 100000 - d → addE (d + m) a = 0 → addV d a ≤ addV (d + m) a := by
  rcases add_cases d a with ⟨_, h0, h1, h2, hs, e1, e3, e4⟩ | ⟨h, _⟩
  · have hl := ml_bd (mt d + a)
    rw [e1]
    refine ⟨h0, hs, ?_, by omega, fun _ => by omega, fun m m0 m1 hm => ?_⟩
    · unfold mt at e3; omega
    · rcases add_cases (d + m) a with ⟨_, g0, g1, g2, gs, f1, f3, f4⟩ | ⟨h, _⟩
      · rw [f1]; exact shift_mono _ _ _ h0 g0 (by omega)
      · omega
  · omega
end Go.Proofs.Ytgdjedbkiaojhaa.Cal
