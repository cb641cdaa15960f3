/- The walk of the law CalendarBack: it answers true, and nothing that lay has turned. -/
import Derived.Test.YtgdjedbkiaojhaaCalH
import Derived.Test.YtgdjedbkiaojhaaCalLaw
set_option linter.unusedVariables false
namespace Go.Proofs.Ytgdjedbkiaojhaa
open Go.RowKit

theorem date_is (d y m k : Int) (w : World) (h : Cal.okDay d) (h1 : Cal.cvY d = y) (h2 : Cal.cvM d = m) (h3 : Cal.cvD d = k) :
    Calls Try.prog 11 #[.int .i64 d] w fun e w' => e = .returned (.tuple #[.int .i64 y, .int .i64 m, .int .i64 k, .int .i64 0]) ∧ w = w' := by
  subst h1 h2 h3; exact date_ok d w h.1 h.2
theorem date_bad (d : Int) (w : World) (h : ¬ Cal.okDay d) :
    Calls Try.prog 11 #[.int .i64 d] w fun e w' => e = .returned (.tuple #[.int .i64 0, .int .i64 0, .int .i64 0, .int .i64 3]) ∧ w = w' :=
  date_no d w (by unfold Cal.okDay at h; omega)
theorem weekday_bad (d : Int) (w : World) (h : ¬ Cal.okDay d) :
    Calls Try.prog 12 #[.int .i64 d] w fun e w' => e = .returned (.tuple #[.int .i64 0, .int .i64 3]) ∧ w = w' :=
  weekday_no d w (by unfold Cal.okDay at h; omega)
theorem day_is (y m k d : Int) (w : World) (h : Cal.dayV y m k = d ∧ Cal.dayE y m k = 0) :
    Calls Try.prog 10 #[.int .i64 y, .int .i64 m, .int .i64 k] w fun e w' => e = .returned (.tuple #[.int .i64 d, .int .i64 0]) ∧ w = w' := by
  have := day_calls y m k w; rw [h.1, h.2] at this; exact this
theorem day_bad (y m k : Int) (w : World) (h : ¬ (Cal.okDate y m k ∧ Cal.okDay (Cal.num y m k))) :
    Calls Try.prog 10 #[.int .i64 y, .int .i64 m, .int .i64 k] w fun e w' => e = .returned (.tuple #[.int .i64 0, .int .i64 3]) ∧ w = w' := by
  have := day_calls y m k w
  unfold Cal.dayV Cal.dayE at this; rw [if_neg h, if_neg h] at this; exact this

theorem validR_yes (d : Int) (w : World) (h : Cal.okDay d) :
    Calls Try.prog 13 #[.int .i64 d] w fun e w' => e = .returned (.bool true) ∧ w = w' := by
  obtain ⟨h1, h2⟩ := h
  go_enter Try.func13, Try.ntmps13
  go_wp2
  go_ret
  exact ⟨rfl, rfl⟩
theorem validR_no (d : Int) (w : World) (h : ¬ Cal.okDay d) :
    Calls Try.prog 13 #[.int .i64 d] w fun e w' => e = .returned (.bool false) ∧ w = w' := by
  by_cases h1 : 0 ≤ d
  · have h2 : 100000 < d := by unfold Cal.okDay at h; omega
    have hd : decide (d ≤ 100000) = false := by simpa using h2
    clear h
    go_enter Try.func13, Try.ntmps13
    go_wp2
    go_ret
    exact ⟨rfl, rfl⟩
  · have h1 : d < 0 := by omega
    clear h
    go_enter Try.func13, Try.ntmps13
    go_wp2
    go_ret
    exact ⟨rfl, rfl⟩

set_option maxRecDepth 100000 in
set_option maxHeartbeats 4000000 in
theorem back_walk (d y m k : Int) (w : World) :
    Calls Try.prog 3 #[.int .i64 d, .int .i64 y, .int .i64 m, .int .i64 k] w fun e w' => e = .returned (.bool true) ∧ Below w.heap.size w w' := by
  go_enter Try.func3, Try.ntmps3
  go_wp2_with fail
  refine (small_calls _).mono ?_
  rintro e w1 ⟨rfl, hb⟩
  go_upto_if 40 with (go_at_call 10; refine (day_calls _ _ _ _).mono ?_; rintro e w' ⟨rfl, rfl⟩)
  go_cut [8, 10, 11] (fun _ _ _ wx => wx = w1)
  case first =>
    by_cases h : Cal.okDate y m k ∧ Cal.okDay (Cal.num y m k)
    · have e0 : Hid (Cal.dayE y m k = 0) := if_pos h
      have e1 : Hid (Cal.dayV y m k = Cal.num y m k) := if_pos h
      have hc := Lib.hid (Cal.cv_num y m k h.1 h.2)
      have h := Lib.hid h
      rw [e0.out, e1.out]
      go_wp2_with (go_at_call 11; refine (date_is _ _ _ _ _ h.out.2 hc.out.1 hc.out.2.1 hc.out.2.2).mono ?_; rintro e w' ⟨rfl, rfl⟩)
      go_meet
      exact rfl
    · have e0 : Hid (Cal.dayE y m k = 3) := if_neg h
      have h := Lib.hid h
      rw [e0.out]
      go_wp2_with fail
      go_meet
      exact rfl
  case rest =>
    subst hcut
    by_cases h : Cal.okDay d
    · have hc := Lib.hid (Cal.day_cv d h)
      obtain ⟨b1, b2, b3, b4, b5, b6⟩ := Cal.cv_bd d h.1 h.2
      have b4 := Lib.hid b4
      have h0 := h.1
      have h9 := h.2
      have hH := Lib.hid h
      clear h
      by_cases h10 : d = 100000
      · have h11 := Lib.hid h10
        have hbt : (d == 100000) = true := by simp [h10]
        clear h10
        go_wp2_with (first
          | (go_at_call 11; refine (date_ok _ _ h0 h9).mono ?_; rintro e w' ⟨rfl, rfl⟩)
          | (go_at_call 12; refine (weekday_ok _ _ h0 h9).mono ?_; rintro e w' ⟨rfl, rfl⟩)
          | (go_at_call 13; refine (validR_yes _ _ hH.out).mono ?_; rintro e w' ⟨rfl, rfl⟩)
          | (go_at_call 10; refine (day_is _ _ _ _ _ hc.out).mono ?_; rintro e w' ⟨rfl, rfl⟩))
        go_ret
        exact ⟨rfl, hb⟩
      · have h8 : d < 100000 := by omega
        have hbf : (d == 100000) = false := by simpa using h10
        have h7 : Cal.okDay (d + 1) := ⟨by omega, by omega⟩
        have hn := Cal.cv_next d hH.out h8
        have hwd : Hid (((d + 1 + 5) % 7 == ((d + 5) % 7 + 1) % 7) = true) := by show _ = _; rw [beq_iff_eq]; omega
        have h7 := Lib.hid h7
        clear h10
        have h71 : 0 ≤ d + 1 := by omega
        have h72 : d + 1 ≤ 100000 := by omega
        have hnH := Lib.hid hn
        clear hn
        have w0 : 0 ≤ (d + 5) % 7 := by omega
        have w6 : (d + 5) % 7 ≤ 6 := by omega
        have b8 : Cal.cvD d ≤ 31 := by have := (Cal.len_bd (Cal.cvY d) (Cal.cvM d) b1 b2).2; have := b4.out; omega
        go_upto_region 18 with (first
          | (go_at_call 11; ((with_reducible refine (date_ok d _ h0 h9).mono ?_); rintro e w' ⟨rfl, rfl⟩))
          | (go_at_call 11; ((with_reducible refine (date_ok (d + 1) _ h71 h72).mono ?_); rintro e w' ⟨rfl, rfl⟩))
          | (go_at_call 12; ((with_reducible refine (weekday_ok d _ h0 h9).mono ?_); rintro e w' ⟨rfl, rfl⟩))
          | (go_at_call 12; ((with_reducible refine (weekday_ok (d + 1) _ h71 h72).mono ?_); rintro e w' ⟨rfl, rfl⟩))
          | (go_at_call 13; refine (validR_yes _ _ hH.out).mono ?_; rintro e w' ⟨rfl, rfl⟩)
          | (go_at_call 10; refine (day_is _ _ _ _ _ hc.out).mono ?_; rintro e w' ⟨rfl, rfl⟩))
        have hn := hnH.out
        have hwd := hwd.out
        clear hnH hc b4 hH h7 h71 h72 h0 h9 h8 hbf
        generalize Cal.cvY (d + 1) = Y' at *
        generalize Cal.cvM (d + 1) = M' at *
        generalize Cal.cvD (d + 1) = D' at *
        generalize Cal.cvY d = Y at *
        generalize Cal.cvM d = M at *
        generalize Cal.cvD d = D at *
        generalize (d + 1 + 5) % 7 = v' at *
        generalize (d + 5) % 7 = v at *
        rcases hn with ⟨n1, n2, n3⟩ | ⟨n3, n1 | ⟨n1, n2⟩⟩
        · subst n1 n2 n3
          go_wp2
          go_ret
          exact ⟨by simp, hb⟩
        · subst n3
          go_wp2
          go_ret
          exact ⟨by simp, hb⟩
        · subst n1 n3
          go_wp2
          go_ret
          exact ⟨by simp, hb⟩
    · have h := Lib.hid h
      go_wp2_with (first
        | (go_at_call 11; refine (date_bad _ _ h.out).mono ?_; rintro e w' ⟨rfl, rfl⟩)
        | (go_at_call 12; refine (weekday_bad _ _ h.out).mono ?_; rintro e w' ⟨rfl, rfl⟩)
        | (go_at_call 13; refine (validR_no _ _ h.out).mono ?_; rintro e w' ⟨rfl, rfl⟩))
      go_ret
      exact ⟨rfl, hb⟩
end Go.Proofs.Ytgdjedbkiaojhaa
