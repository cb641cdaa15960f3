/- The walks of package calendar's plain functions: valid, civil, number, length, Date, Day, Weekday, AddMonths. -/
import Derived.Test.YtgdjedbkiaojhaaKit
import Derived.Test.YtgdjedbkiaojhaaCalMath
set_option linter.unusedVariables false
namespace Go.Proofs.Ytgdjedbkiaojhaa
open Go.RowKit

theorem valid_yes (d : Int) (w : World) (h1 : 0 ≤ d) (h2 : d ≤ 100000) :
    Calls Try.prog 30 #[.int .i64 d] w fun e w' => e = .returned (.bool true) ∧ w = w' := by
  go_enter Try.func30, Try.ntmps30
  go_wp2
  go_ret
  exact ⟨rfl, rfl⟩
theorem valid_no (d : Int) (w : World) (h : d < 0 ∨ 100000 < d) :
    Calls Try.prog 30 #[.int .i64 d] w fun e w' => e = .returned (.bool false) ∧ w = w' := by
  rcases h with h | h
  · go_enter Try.func30, Try.ntmps30
    go_wp2
    go_ret
    exact ⟨rfl, rfl⟩
  · have h0 : 0 ≤ d := by omega
    have hd : decide (d ≤ 100000) = false := by simpa using h
    go_enter Try.func30, Try.ntmps30
    go_wp2
    go_ret
    exact ⟨rfl, rfl⟩

theorem civil_calls (d : Int) (w : World) (h1 : 0 ≤ d) (h2 : d ≤ 100000) :
    Calls Try.prog 31 #[.int .i64 d] w fun e w' => e = .returned (.tuple #[.int .i64 (Cal.cvY d), .int .i64 (Cal.cvM d), .int .i64 (Cal.cvD d)]) ∧ w = w' := by
  obtain ⟨a1, a2, a3, a4, a5, a6, a7, a8, a9, a10, a11, a12, a13⟩ := Cal.parts d h1 (by omega)
  have er : Hid (Cal.er d = (d + 730425) / 146097) := rfl
  have re : Hid (Cal.re d = (d + 730425) % 146097) := rfl
  have ye : Hid (Cal.ye d = (Cal.re d - Cal.re d / 1460 + Cal.re d / 36524 - Cal.re d / 146096) / 365) := rfl
  have dy : Hid (Cal.dy d = Cal.re d - (365 * Cal.ye d + Cal.ye d / 4 - Cal.ye d / 100)) := rfl
  have mp : Hid (Cal.mp d = (5 * Cal.dy d + 2) / 153) := rfl
  have eD : Hid (Cal.cvD d = Cal.dy d - (153 * Cal.mp d + 2) / 5 + 1) := rfl
  have eY := Lib.hid (Cal.cvY_eq d)
  have eM := Lib.hid (Cal.cvM_eq d)
  clear a3 a10 a13
  generalize Cal.er d = E at *
  generalize Cal.re d = R at *
  generalize Cal.ye d = Y at *
  generalize Cal.dy d = K at *
  generalize Cal.mp d = M at *
  go_enter Try.func31, Try.ntmps31
  go_upto_region 3 with fail
  rw [← er.out, ← re.out]
  go_upto_region 4 with fail
  rw [← ye.out]
  go_upto_region 5 with fail
  rw [← dy.out]
  go_upto_region 6 with fail
  rw [← mp.out]
  by_cases hM : 12 < M + 3
  · have qY := Lib.hid (eY.out.1 hM)
    have qM := Lib.hid (eM.out.1 hM)
    go_wp2
    go_ret3
    exact ⟨ret3i qY.out.symm qM.out.symm eD.out.symm, rfl⟩
  · have qY := Lib.hid (eY.out.2 hM)
    have qM := Lib.hid (eM.out.2 hM)
    go_wp2
    go_ret3
    exact ⟨ret3i qY.out.symm qM.out.symm eD.out.symm, rfl⟩

theorem number_calls (y m k : Int) (w : World) (h0 : 1 ≤ y) (h : y ≤ 9999) (h1 : 1 ≤ m) (h2 : m ≤ 13) (h3 : 1 ≤ k) (h4 : k ≤ 31) :
    Calls Try.prog 29 #[.int .i64 y, .int .i64 m, .int .i64 k] w fun e w' => e = .returned (.int .i64 (Cal.num y m k)) ∧ w = w' := by
  by_cases hm : m < 3
  · have e : Hid (Cal.num y m k = 365 * (y - 1) + (y - 1) / 4 - (y - 1) / 100 + (y - 1) / 400 + (153 * (m + 12 - 3) + 2) / 5 + k - 1 - 730425) := by
      unfold Cal.num; rw [if_pos hm, show m + 12 - 3 = m + 9 from by omega]; rfl
    go_enter Try.func29, Try.ntmps29
    go_wp2
    go_ret
    exact ⟨ret1i e.out.symm, rfl⟩
  · have e : Hid (Cal.num y m k = 365 * y + y / 4 - y / 100 + y / 400 + (153 * (m - 3) + 2) / 5 + k - 1 - 730425) := by
      unfold Cal.num; rw [if_neg hm]; rfl
    go_enter Try.func29, Try.ntmps29
    go_wp2
    go_ret
    exact ⟨ret1i e.out.symm, rfl⟩

theorem length_calls (y m : Int) (w : World) (h0 : 1 ≤ y) (h : y ≤ 9999) (h1 : 1 ≤ m) (h2 : m ≤ 12) :
    Calls Try.prog 28 #[.int .i64 y, .int .i64 m] w fun e w' => e = .returned (.int .i64 (Cal.len y m)) ∧ w = w' := by
  by_cases hm : m = 12
  · subst hm
    go_enter Try.func28, Try.ntmps28
    go_wp2
    go_ret
    exact ⟨rfl, rfl⟩
  · have e : Hid (Cal.len y m = Cal.num y (m + 1) 1 - Cal.num y m 1) := if_neg hm
    have hb := (m == 12)
    have hm' : (m == 12) = false := by simpa using hm
    have b1 := Cal.num_bd y (m + 1) 1 h0 h (by omega) (by omega) (by omega) (by omega)
    have b2 := Cal.num_bd y m 1 h0 h (by omega) (by omega) (by omega) (by omega)
    clear hm
    go_enter Try.func28, Try.ntmps28
    go_wp2_with (go_at_call 29; refine (number_calls _ _ _ _ (by omega) (by omega) (by omega) (by omega) (by omega) (by omega)).mono ?_; rintro e w' ⟨rfl, rfl⟩)
    go_ret
    exact ⟨ret1i e.out.symm, rfl⟩

theorem date_ok (d : Int) (w : World) (h1 : 0 ≤ d) (h2 : d ≤ 100000) :
    Calls Try.prog 11 #[.int .i64 d] w fun e w' => e = .returned (.tuple #[.int .i64 (Cal.cvY d), .int .i64 (Cal.cvM d), .int .i64 (Cal.cvD d), .int .i64 0]) ∧ w = w' := by
  go_enter Try.func11, Try.ntmps11
  go_wp2_with (first | (go_at_call 30; refine (valid_yes _ _ h1 h2).mono ?_; rintro e w' ⟨rfl, rfl⟩) | (go_at_call 31; refine (civil_calls _ _ h1 h2).mono ?_; rintro e w' ⟨rfl, rfl⟩))
  refine bodyPost_ret (results_tmp4 rfl _ _ _) rfl ?_
  exact ⟨rfl, rfl⟩
theorem date_no (d : Int) (w : World) (h : d < 0 ∨ 100000 < d) :
    Calls Try.prog 11 #[.int .i64 d] w fun e w' => e = .returned (.tuple #[.int .i64 0, .int .i64 0, .int .i64 0, .int .i64 3]) ∧ w = w' := by
  have h := Lib.hid h
  go_enter Try.func11, Try.ntmps11
  go_wp2_with (go_at_call 30; refine (valid_no _ _ h.out).mono ?_; rintro e w' ⟨rfl, rfl⟩)
  refine bodyPost_ret (results_tmp4 rfl _ _ _) rfl ?_
  exact ⟨rfl, rfl⟩

theorem weekday_ok (d : Int) (w : World) (h1 : 0 ≤ d) (h2 : d ≤ 100000) :
    Calls Try.prog 12 #[.int .i64 d] w fun e w' => e = .returned (.tuple #[.int .i64 ((d + 5) % 7), .int .i64 0]) ∧ w = w' := by
  go_enter Try.func12, Try.ntmps12
  go_wp2_with (go_at_call 30; refine (valid_yes _ _ h1 h2).mono ?_; rintro e w' ⟨rfl, rfl⟩)
  go_ret2
  exact ⟨rfl, rfl⟩
theorem weekday_no (d : Int) (w : World) (h : d < 0 ∨ 100000 < d) :
    Calls Try.prog 12 #[.int .i64 d] w fun e w' => e = .returned (.tuple #[.int .i64 0, .int .i64 3]) ∧ w = w' := by
  have h := Lib.hid h
  go_enter Try.func12, Try.ntmps12
  go_wp2_with (go_at_call 30; refine (valid_no _ _ h.out).mono ?_; rintro e w' ⟨rfl, rfl⟩)
  go_ret2
  exact ⟨rfl, rfl⟩

theorem day_ok (y m k : Int) (w : World) (h : Cal.okDate y m k) (h9 : Cal.num y m k ≤ 100000) :
    Calls Try.prog 10 #[.int .i64 y, .int .i64 m, .int .i64 k] w fun e w' => e = .returned (.tuple #[.int .i64 (Cal.num y m k), .int .i64 0]) ∧ w = w' := by
  have h0 := (Cal.num_lo y m k h).1
  obtain ⟨a1, a2, a3, a4, a5, a6⟩ := h
  have hb := Cal.len_bd y m a3 a4
  go_enter Try.func10, Try.ntmps10
  go_wp2_with (first
    | (go_at_call 28; refine (length_calls _ _ _ (by omega) (by omega) (by omega) (by omega)).mono ?_; rintro e w' ⟨rfl, rfl⟩)
    | (go_at_call 29; refine (number_calls _ _ _ _ (by omega) (by omega) (by omega) (by omega) (by omega) (by omega)).mono ?_; rintro e w' ⟨rfl, rfl⟩)
    | (go_at_call 30; refine (valid_yes _ _ h0 h9).mono ?_; rintro e w' ⟨rfl, rfl⟩))
  go_ret2
  exact ⟨rfl, rfl⟩

theorem day_late (y m k : Int) (w : World) (h : Cal.okDate y m k) (h9 : 100000 < Cal.num y m k) :
    Calls Try.prog 10 #[.int .i64 y, .int .i64 m, .int .i64 k] w fun e w' => e = .returned (.tuple #[.int .i64 0, .int .i64 3]) ∧ w = w' := by
  obtain ⟨a1, a2, a3, a4, a5, a6⟩ := h
  have hb := Cal.len_bd y m a3 a4
  go_enter Try.func10, Try.ntmps10
  go_wp2_with (first
    | (go_at_call 28; refine (length_calls _ _ _ (by omega) (by omega) (by omega) (by omega)).mono ?_; rintro e w' ⟨rfl, rfl⟩)
    | (go_at_call 29; refine (number_calls _ _ _ _ (by omega) (by omega) (by omega) (by omega) (by omega) (by omega)).mono ?_; rintro e w' ⟨rfl, rfl⟩)
    | (go_at_call 30; refine (valid_no _ _ (Or.inr h9)).mono ?_; rintro e w' ⟨rfl, rfl⟩))
  go_ret2
  exact ⟨rfl, rfl⟩

theorem day_no (y m k : Int) (w : World) (h : ¬ Cal.okDate y m k) :
    Calls Try.prog 10 #[.int .i64 y, .int .i64 m, .int .i64 k] w fun e w' => e = .returned (.tuple #[.int .i64 0, .int .i64 3]) ∧ w = w' := by
  by_cases a1 : 2000 ≤ y
  · by_cases a2 : y ≤ 2300
    · by_cases a3 : 1 ≤ m
      · by_cases a4 : m ≤ 12
        · by_cases a5 : 1 ≤ k
          · have a6 : Cal.len y m < k := by
              apply Classical.byContradiction; intro h6; exact h ⟨a1, a2, a3, a4, a5, by omega⟩
            clear h
            go_enter Try.func10, Try.ntmps10
            go_wp2_with (go_at_call 28; refine (length_calls _ _ _ (by omega) (by omega) (by omega) (by omega)).mono ?_; rintro e w' ⟨rfl, rfl⟩)
            go_ret2
            exact ⟨rfl, rfl⟩
          · clear h
            go_enter Try.func10, Try.ntmps10
            go_wp2_with fail
            go_ret2
            exact ⟨rfl, rfl⟩
        · clear h
          go_enter Try.func10, Try.ntmps10
          go_wp2_with fail
          go_ret2
          exact ⟨rfl, rfl⟩
      · clear h
        go_enter Try.func10, Try.ntmps10
        go_wp2_with fail
        go_ret2
        exact ⟨rfl, rfl⟩
    · clear h
      go_enter Try.func10, Try.ntmps10
      go_wp2_with fail
      go_ret2
      exact ⟨rfl, rfl⟩
  · clear h
    go_enter Try.func10, Try.ntmps10
    go_wp2_with fail
    go_ret2
    exact ⟨rfl, rfl⟩

theorem day_calls (y m k : Int) (w : World) :
    Calls Try.prog 10 #[.int .i64 y, .int .i64 m, .int .i64 k] w fun e w' => e = .returned (.tuple #[.int .i64 (Cal.dayV y m k), .int .i64 (Cal.dayE y m k)]) ∧ w = w' := by
  by_cases h : Cal.okDate y m k
  · by_cases h9 : Cal.num y m k ≤ 100000
    · have hc : Cal.okDate y m k ∧ Cal.okDay (Cal.num y m k) := ⟨h, (Cal.num_lo y m k h).1, h9⟩
      unfold Cal.dayV Cal.dayE; rw [if_pos hc, if_pos hc]; exact day_ok y m k w h h9
    · have hc : ¬ (Cal.okDate y m k ∧ Cal.okDay (Cal.num y m k)) := fun hh => h9 hh.2.2
      unfold Cal.dayV Cal.dayE; rw [if_neg hc, if_neg hc]; exact day_late y m k w h (by omega)
  · have hc : ¬ (Cal.okDate y m k ∧ Cal.okDay (Cal.num y m k)) := fun hh => h hh.1
    unfold Cal.dayV Cal.dayE; rw [if_neg hc, if_neg hc]; exact day_no y m k w h

end Go.Proofs.Ytgdjedbkiaojhaa
