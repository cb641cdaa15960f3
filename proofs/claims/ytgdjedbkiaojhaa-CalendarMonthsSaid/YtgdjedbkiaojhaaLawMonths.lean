/- The walk of the law CalendarMonths: it answers true, and nothing that lay has turned. -/
import Derived.Test.YtgdjedbkiaojhaaCalH
import Derived.Test.YtgdjedbkiaojhaaCalLaw2
import Derived.Test.YtgdjedbkiaojhaaLawBack
set_option linter.unusedVariables false
namespace Go.Proofs.Ytgdjedbkiaojhaa
open Go.RowKit

theorem add_bad (d n : Int) (w : World) (h : Cal.addE d n = 3 ∧ Cal.addV d n = 0) :
    Calls Try.prog 14 #[.int .i64 d, .int .i64 n] w fun e w' => e = .returned (.tuple #[.int .i64 0, .int .i64 3]) ∧ w = w' := by
  have := addMonths_calls d n w; rw [h.1, h.2] at this; exact this
theorem add_is (d n x e : Int) (w : World) (h1 : Cal.addV d n = x) (h : Cal.addE d n = e) :
    Calls Try.prog 14 #[.int .i64 d, .int .i64 n] w fun en w' => en = .returned (.tuple #[.int .i64 x, .int .i64 e]) ∧ w = w' := by
  have := addMonths_calls d n w; rw [h, h1] at this; exact this
namespace Cal
/-- with the machine's sum -/
theorem add_wrap (d a b : Int) (ha : addE d a = 0) (h28 : cvD d ≤ 28) (hb : -9223372036854775808 ≤ b ∧ b ≤ 9223372036854775807) :
    addV (addV d a) b = addV d (wrap64 (a + b)) ∧ addE (addV d a) b = addE d (wrap64 (a + b)) := by
  by_cases h : -9223372036854775808 ≤ a + b ∧ a + b ≤ 9223372036854775807
  · rw [IntWalk.wrap64_in _ h]; exact add_add d a b ha h28
  · have ha2 : -5000 ≤ a ∧ a ≤ 5000 := by
      rcases add_cases d a with ⟨_, _, h1, h2, _⟩ | ⟨h, _⟩
      · exact ⟨h1, h2⟩
      · omega
    have h1 : ¬ (okDay (addV d a) ∧ -5000 ≤ b ∧ b ≤ 5000) := fun hh => by omega
    have h2 : ¬ (okDay d ∧ -5000 ≤ wrap64 (a + b) ∧ wrap64 (a + b) ≤ 5000) := fun hh => by unfold wrap64 at hh; omega
    rw [(add_out _ _ h1).1, (add_out _ _ h1).2, (add_out _ _ h2).1, (add_out _ _ h2).2]; exact ⟨rfl, rfl⟩
end Cal

set_option maxRecDepth 100000 in
set_option maxHeartbeats 4000000 in
theorem months_no (d a b more : Int) (w : World) (h : Cal.addE d a = 3 ∧ Cal.addV d a = 0) :
    Calls Try.prog 4 #[.int .i64 d, .int .i64 a, .int .i64 b, .int .i64 more] w fun e w' => e = .returned (.bool true) ∧ Below w.heap.size w w' := by
  have h := Lib.hid h
  by_cases hd : Cal.okDay d
  · have h0 := hd.1
    have h9 := hd.2
    clear hd
    go_enter Try.func4, Try.ntmps4
    go_wp2_with fail
    refine (small_calls _).mono ?_
    rintro e w1 ⟨rfl, hb⟩
    go_wp2_with (first
      | (go_at_call 11; refine (date_ok _ _ h0 h9).mono ?_; rintro e w' ⟨rfl, rfl⟩)
      | (go_at_call 14; refine (add_bad _ _ _ h.out).mono ?_; rintro e w' ⟨rfl, rfl⟩))
    go_ret
    exact ⟨by apply ret1b; simp; omega, hb⟩
  · have hd2 : d < 0 ∨ 100000 < d := by unfold Cal.okDay at hd; omega
    have hdH := Lib.hid hd
    clear hd
    rcases hd2 with h0 | h0
    all_goals
      go_enter Try.func4, Try.ntmps4
      go_wp2_with fail
      refine (small_calls _).mono ?_
      rintro e w1 ⟨rfl, hb⟩
      go_wp2_with (first
        | (go_at_call 11; refine (date_bad _ _ hdH.out).mono ?_; rintro e w' ⟨rfl, rfl⟩)
        | (go_at_call 14; refine (add_bad _ _ _ h.out).mono ?_; rintro e w' ⟨rfl, rfl⟩))
      go_ret
      exact ⟨by apply ret1b; first | rfl | (simp; omega), hb⟩

set_option maxRecDepth 100000 in
set_option maxHeartbeats 4000000 in
theorem months_yes (d a b more : Int) (w : World) (h : Cal.addE d a = 0) (hbw : -9223372036854775808 ≤ b ∧ b ≤ 9223372036854775807) :
    Calls Try.prog 4 #[.int .i64 d, .int .i64 a, .int .i64 b, .int .i64 more] w fun e w' => e = .returned (.bool true) ∧ Below w.heap.size w w' := by
  obtain ⟨hd, ho, m1, m2, m3, m4⟩ := Cal.months_law d a h
  have hadd := Lib.hid (fun h28 => Cal.add_wrap d a b h h28 hbw)
  have ha2 : -5000 ≤ a ∧ a ≤ 5000 := by
    rcases Cal.add_cases d a with ⟨_, _, h1, h2, _⟩ | ⟨h, _⟩
    · exact ⟨h1, h2⟩
    · omega
  obtain ⟨a1, a2⟩ := ha2
  obtain ⟨b1, b2, b3, b4, b5, b6⟩ := Cal.cv_bd d hd.1 hd.2
  obtain ⟨g1, g2, g3, g4, g5, g6⟩ := Cal.cv_bd _ ho.1 ho.2
  have hE := Lib.hid h
  have h0 := hd.1
  have h9 := hd.2
  have o0 := ho.1
  have o9 := ho.2
  have m4 := Lib.hid m4
  clear h hbw hd ho b4 g4
  have m1 := Lib.hid m1
  have m3 := Lib.hid m3
  generalize hone : Cal.addV d a = one at *
  have honeH := Lib.hid hone
  clear hone
  go_enter Try.func4, Try.ntmps4
  go_wp2_with fail
  refine (small_calls _).mono ?_
  rintro e w1 ⟨rfl, hb⟩
  go_upto_region 7 with (first
    | (go_at_call 11; ((with_reducible refine (date_ok d _ h0 h9).mono ?_); rintro e w' ⟨rfl, rfl⟩))
    | (go_at_call 11; ((with_reducible refine (date_ok one _ o0 o9).mono ?_); rintro e w' ⟨rfl, rfl⟩))
    | (go_at_call 14; refine (add_is _ _ _ _ _ honeH.out hE.out).mono ?_; rintro e w' ⟨rfl, rfl⟩))
  have m1 : 12 * Cal.cvY one + Cal.cvM one = 12 * Cal.cvY d + Cal.cvM d + a := m1.out
  have m1b : (12 * Cal.cvY one + Cal.cvM one == 12 * Cal.cvY d + Cal.cvM d + a) = true := by simp [m1]
  have m1H := Lib.hid m1
  clear m1
  by_cases hD : Cal.cvD d ≤ 28
  · obtain ⟨q1, q2⟩ := hadd.out hD
    have m3b : (Cal.cvD one == Cal.cvD d) = true := by simp [m3.out hD]
    generalize hx2 : Cal.addV one b = x2 at *
    generalize he2 : Cal.addE one b = e2 at *
    have hx2 := Lib.hid hx2
    have he2 := Lib.hid he2
    have q1 := Lib.hid q1.symm
    have q2 := Lib.hid q2.symm
    go_upto_region 13 with (first
      | (go_at_call 14; ((with_reducible refine (add_is one b _ _ _ hx2.out he2.out).mono ?_); rintro e w' ⟨rfl, rfl⟩))
      | (go_at_call 14; ((with_reducible refine (add_is d _ _ _ _ q1.out q2.out).mono ?_); rintro e w' ⟨rfl, rfl⟩)))
    by_cases hmo : 0 ≤ more ∧ more ≤ 100000 - d
    · obtain ⟨p0, p1⟩ := hmo
      have m5 := Lib.hid (m4.out more p0 p1)
      rcases Cal.add_cases (d + more) a with ⟨z0, -⟩ | z0
      · have z1 := m5.out z0
        generalize hx3 : Cal.addV (d + more) a = x3 at *
        have hx3 := Lib.hid hx3
        have z0 := Lib.hid z0
        go_wp2_with (go_at_call 14; refine (add_is _ _ _ _ _ hx3.out z0.out).mono ?_; rintro e w' ⟨rfl, rfl⟩)
        go_ret
        exact ⟨rfl, hb⟩
      · have z0 := Lib.hid z0
        go_wp2_with (go_at_call 14; refine (add_bad _ _ _ z0.out).mono ?_; rintro e w' ⟨rfl, rfl⟩)
        go_ret
        exact ⟨rfl, hb⟩
    · rcases (by omega : more < 0 ∨ (0 ≤ more ∧ 100000 - d < more)) with p0 | ⟨p0, p1⟩
      all_goals
        go_wp2_with fail
        go_ret
        exact ⟨by apply ret1b; first | rfl | (simp; omega), hb⟩
  · generalize hx2 : Cal.addV one b = x2 at *
    generalize he2 : Cal.addE one b = e2 at *
    have hx2 := Lib.hid hx2
    have he2 := Lib.hid he2
    go_upto_region 13 with (first
      | (go_at_call 14; ((with_reducible refine (add_is one b _ _ _ hx2.out he2.out).mono ?_); rintro e w' ⟨rfl, rfl⟩))
      | (go_at_call 14; ((with_reducible refine (addMonths_calls d _ _).mono ?_); rintro e w' ⟨rfl, rfl⟩)))
    by_cases hmo : 0 ≤ more ∧ more ≤ 100000 - d
    · obtain ⟨p0, p1⟩ := hmo
      have m5 := Lib.hid (m4.out more p0 p1)
      rcases Cal.add_cases (d + more) a with ⟨z0, -⟩ | z0
      · have z1 := m5.out z0
        generalize hx3 : Cal.addV (d + more) a = x3 at *
        have hx3 := Lib.hid hx3
        have z0 := Lib.hid z0
        go_wp2_with (go_at_call 14; refine (add_is _ _ _ _ _ hx3.out z0.out).mono ?_; rintro e w' ⟨rfl, rfl⟩)
        go_ret
        exact ⟨rfl, hb⟩
      · have z0 := Lib.hid z0
        go_wp2_with (go_at_call 14; refine (add_bad _ _ _ z0.out).mono ?_; rintro e w' ⟨rfl, rfl⟩)
        go_ret
        exact ⟨rfl, hb⟩
    · rcases (by omega : more < 0 ∨ (0 ≤ more ∧ 100000 - d < more)) with p0 | ⟨p0, p1⟩
      all_goals
        go_wp2_with fail
        go_ret
        exact ⟨by apply ret1b; first | rfl | (simp; omega), hb⟩

theorem months_walk (d a b more : Int) (w : World) (hbw : -9223372036854775808 ≤ b ∧ b ≤ 9223372036854775807) :
    Calls Try.prog 4 #[.int .i64 d, .int .i64 a, .int .i64 b, .int .i64 more] w fun e w' => e = .returned (.bool true) ∧ Below w.heap.size w w' := by
  rcases Cal.add_cases d a with ⟨h, _⟩ | h
  · exact months_yes d a b more w h hbw
  · exact months_no d a b more w h
end Go.Proofs.Ytgdjedbkiaojhaa
