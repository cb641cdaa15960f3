/- The walk of calendar.AddMonths. -/
import Derived.Test.YtgdjedbkiaojhaaCalA
set_option linter.unusedVariables false
namespace Go.Proofs.Ytgdjedbkiaojhaa
open Go.RowKit

/-- AddMonths where its arguments are such: as Day of the moved month -/
theorem addMonths_ok (d n : Int) (w : World) (h1 : 0 ≤ d) (h2 : d ≤ 100000) (h3 : -5000 ≤ n) (h4 : n ≤ 5000) :
    Calls Try.prog 14 #[.int .i64 d, .int .i64 n] w fun e w' => e = .returned (.tuple #[.int .i64 (Cal.addV d n), .int .i64 (Cal.addE d n)]) ∧ w = w' := by
  obtain ⟨b1, b2, b3, b4, b5, b6⟩ := Cal.cv_bd d h1 h2
  have hV : Hid (Cal.addV d n = Cal.dayV ((12 * Cal.cvY d + Cal.cvM d - 1 + n) / 12) ((12 * Cal.cvY d + Cal.cvM d - 1 + n) % 12 + 1) (min (Cal.cvD d) (Cal.len ((12 * Cal.cvY d + Cal.cvM d - 1 + n) / 12) ((12 * Cal.cvY d + Cal.cvM d - 1 + n) % 12 + 1)))) :=
    if_pos ⟨⟨h1, h2⟩, h3, h4⟩
  have hE : Hid (Cal.addE d n = Cal.dayE ((12 * Cal.cvY d + Cal.cvM d - 1 + n) / 12) ((12 * Cal.cvY d + Cal.cvM d - 1 + n) % 12 + 1) (min (Cal.cvD d) (Cal.len ((12 * Cal.cvY d + Cal.cvM d - 1 + n) / 12) ((12 * Cal.cvY d + Cal.cvM d - 1 + n) % 12 + 1)))) :=
    if_pos ⟨⟨h1, h2⟩, h3, h4⟩
  clear b4
  go_enter Try.func14, Try.ntmps14
  go_wp2_with (first
    | (go_at_call 30; refine (valid_yes _ _ h1 h2).mono ?_; rintro e w' ⟨rfl, rfl⟩)
    | (go_at_call 31; refine (civil_calls _ _ h1 h2).mono ?_; rintro e w' ⟨rfl, rfl⟩)
    | (go_at_call 28; refine (length_calls _ _ _ (by omega) (by omega) (by omega) (by omega)).mono ?_; rintro e w' ⟨rfl, rfl⟩)
    | (go_at_call 10; refine (day_calls _ _ _ _).mono ?_; rintro e w' ⟨rfl, rfl⟩))
  all_goals
    go_ret2
    exact ⟨ret2i (by rw [hV.out]; congr 1; omega) (by rw [hE.out]; congr 1; omega), rfl⟩

theorem addMonths_no (d n : Int) (w : World) (h : ¬ (Cal.okDay d ∧ -5000 ≤ n ∧ n ≤ 5000)) :
    Calls Try.prog 14 #[.int .i64 d, .int .i64 n] w fun e w' => e = .returned (.tuple #[.int .i64 0, .int .i64 3]) ∧ w = w' := by
  by_cases h1 : Cal.okDay d
  · have h2 : n < -5000 ∨ 5000 < n := by
      apply Classical.byContradiction; intro h6; exact h ⟨h1, by omega, by omega⟩
    obtain ⟨h0, h9⟩ := h1
    clear h
    rcases h2 with h2 | h2
    · go_enter Try.func14, Try.ntmps14
      go_wp2_with (go_at_call 30; refine (valid_yes _ _ h0 h9).mono ?_; rintro e w' ⟨rfl, rfl⟩)
      go_ret2
      exact ⟨rfl, rfl⟩
    · have h3 : ¬ n < -5000 := by omega
      go_enter Try.func14, Try.ntmps14
      go_wp2_with (go_at_call 30; refine (valid_yes _ _ h0 h9).mono ?_; rintro e w' ⟨rfl, rfl⟩)
      go_ret2
      exact ⟨rfl, rfl⟩
  · have h1 : d < 0 ∨ 100000 < d := by unfold Cal.okDay at h1; omega
    have h1 := Lib.hid h1
    clear h
    go_enter Try.func14, Try.ntmps14
    go_wp2_with (go_at_call 30; refine (valid_no _ _ h1.out).mono ?_; rintro e w' ⟨rfl, rfl⟩)
    go_ret2
    exact ⟨rfl, rfl⟩

theorem addMonths_calls (d n : Int) (w : World) :
    Calls Try.prog 14 #[.int .i64 d, .int .i64 n] w fun e w' => e = .returned (.tuple #[.int .i64 (Cal.addV d n), .int .i64 (Cal.addE d n)]) ∧ w = w' := by
  by_cases h : Cal.okDay d ∧ -5000 ≤ n ∧ n ≤ 5000
  · exact addMonths_ok d n w h.1.1 h.1.2 h.2.1 h.2.2
  · have := addMonths_no d n w h
    unfold Cal.addV Cal.addE; rw [if_neg h, if_neg h]; exact this

end Go.Proofs.Ytgdjedbkiaojhaa
