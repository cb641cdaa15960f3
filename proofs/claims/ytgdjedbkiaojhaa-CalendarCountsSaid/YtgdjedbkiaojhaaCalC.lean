/- Whether a day is open in a city: the walks of calendar.open and calendar.Open. -/
import Derived.Test.YtgdjedbkiaojhaaCalA
import Derived.Test.YtgdjedbkiaojhaaMem
set_option linter.unusedVariables false
namespace Go.Proofs.Ytgdjedbkiaojhaa
open Go.RowKit

structure Town where
  rest : List Int
  feasts : List Int
  shut : List Int
/-- the city value v reads as c -/
def CityV (w : World) (v : Value) (c : Town) : Prop :=
  ∃ nm o cu r f s, v = .agg #[.string nm, .int .i64 o, .int .i64 cu, r, f, s] ∧ Ints w r c.rest ∧ Ints w f c.feasts ∧ Ints w s c.shut
theorem CityV.to {A B : World} (h : Below A.heap.size A B) {v : Value} {c : Town} : CityV A v c → CityV B v c := by
  rintro ⟨nm, o, cu, r, f, s, rfl, h1, h2, h3⟩
  exact ⟨nm, o, cu, r, f, s, rfl, h1.to h, h2.to h, h3.to h⟩
namespace Cal
def openD (c : Town) (d : Int) : Bool := !decide ((d + 5) % 7 ∈ c.rest) && !decide (100 * cvM d + cvD d ∈ c.feasts) && !decide (d ∈ c.shut)
end Cal

theorem Ints.slice {w : World} {v : Value} {xs : List Int} (h : Ints w v xs) : ∃ a n c, v = .slice a n c := by
  obtain ⟨_, ⟨a, c, rfl, _⟩ | ⟨b, off, c, rfl, _⟩⟩ := h
  · exact ⟨a, 0, c, rfl⟩
  · exact ⟨_, _, c, rfl⟩

set_option maxRecDepth 100000 in
theorem open_calls (v : Value) (c : Town) (d : Int) (w : World) (h : CityV w v c) (h1 : 0 ≤ d) (h2 : d ≤ 100000) :
    Calls Try.prog 34 #[v, .int .i64 d] w fun e w' => e = .returned (.bool (Cal.openD c d)) ∧ Below w.heap.size w w' := by
  obtain ⟨nm, o, cu, r, f, s, rfl, i1, i2, i3⟩ := h
  obtain ⟨ra, rn, rc, rfl⟩ := i1.slice
  obtain ⟨fa, fn, fc, rfl⟩ := i2.slice
  obtain ⟨sa, sn, sc, rfl⟩ := i3.slice
  have j1 := Lib.hid i1
  have j2 := Lib.hid i2
  have j3 := Lib.hid i3
  clear i1 i2 i3
  obtain ⟨b1, b2, b3, b4, b5, b6⟩ := Cal.cv_bd d h1 h2
  have b7 := (Cal.len_bd (Cal.cvY d) (Cal.cvM d) b1 b2).2
  have b8 : Cal.cvD d ≤ 31 := by omega
  clear b4 b7
  have W1 : Below w.heap.size w (w.alloc (.cells #[.string nm, .int .i64 o, .int .i64 cu, .slice ra rn rc, .slice fa fn fc, .slice sa sn sc] 34)) := (Below.refl _ _).alloc (Nat.le_refl _) _
  obtain ⟨p1, e1⟩ : ∃ p, decide ((d + 5) % 7 ∈ c.rest) = p := ⟨_, rfl⟩
  obtain ⟨p2, e2⟩ : ∃ p, decide (100 * Cal.cvM d + Cal.cvD d ∈ c.feasts) = p := ⟨_, rfl⟩
  obtain ⟨p3, e3⟩ : ∃ p, decide (d ∈ c.shut) = p := ⟨_, rfl⟩
  have eo : Hid (Cal.openD c d = (!p1 && !p2 && !p3)) := by unfold Cal.openD; rw [e1, e2, e3]; rfl
  have q1 := Lib.hid e1
  have q2 := Lib.hid e2
  have q3 := Lib.hid e3
  have W1 := Lib.hid W1
  clear e1 e2 e3
  cases p1
  · cases p2
    · cases p3
      all_goals
        go_enter Try.func34, Try.ntmps34
        go_wp2_with (first
          | (go_at_call 31; refine (civil_calls _ _ h1 h2).mono ?_; rintro e w' ⟨rfl, rfl⟩)
          | (go_at_call 38; ((with_reducible refine (contains_is _ _ _ _ _ (j1.out.to W1.out) q1.out).mono ?_); rintro e w' ⟨rfl, rfl⟩))
          | (go_at_call 38; ((with_reducible refine (contains_is _ _ _ _ _ (j2.out.to W1.out) q2.out).mono ?_); rintro e w' ⟨rfl, rfl⟩))
          | (go_at_call 38; ((with_reducible refine (contains_is _ _ _ _ _ (j3.out.to W1.out) q3.out).mono ?_); rintro e w' ⟨rfl, rfl⟩)))
        go_ret
        exact ⟨ret1b eo.out.symm, W1.out⟩
    · go_enter Try.func34, Try.ntmps34
      go_wp2_with (first
        | (go_at_call 31; refine (civil_calls _ _ h1 h2).mono ?_; rintro e w' ⟨rfl, rfl⟩)
        | (go_at_call 38; ((with_reducible refine (contains_is _ _ _ _ _ (j1.out.to W1.out) q1.out).mono ?_); rintro e w' ⟨rfl, rfl⟩))
        | (go_at_call 38; ((with_reducible refine (contains_is _ _ _ _ _ (j2.out.to W1.out) q2.out).mono ?_); rintro e w' ⟨rfl, rfl⟩)))
      go_ret
      exact ⟨ret1b eo.out.symm, W1.out⟩
  · go_enter Try.func34, Try.ntmps34
    go_wp2_with (first
      | (go_at_call 31; refine (civil_calls _ _ h1 h2).mono ?_; rintro e w' ⟨rfl, rfl⟩)
      | (go_at_call 38; ((with_reducible refine (contains_is _ _ _ _ _ (j1.out.to W1.out) q1.out).mono ?_); rintro e w' ⟨rfl, rfl⟩)))
    go_ret
    exact ⟨ret1b eo.out.symm, W1.out⟩
theorem open_is (v : Value) (c : Town) (d : Int) (p : Bool) (w : World) (h : CityV w v c) (h1 : 0 ≤ d) (h2 : d ≤ 100000) (hp : Cal.openD c d = p) :
    Calls Try.prog 34 #[v, .int .i64 d] w fun e w' => e = .returned (.bool p) ∧ Below w.heap.size w w' := by
  subst hp; exact open_calls v c d w h h1 h2
end Go.Proofs.Ytgdjedbkiaojhaa
