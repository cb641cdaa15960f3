/- The walks of the reference's Count, of Plus at whatever numbers, of few. -/
import Derived.Test.YtgdjedbkiaojhaaRefC
import Derived.Test.YtgdjedbkiaojhaaRefB
import Derived.Test.YtgdjedbkiaojhaaCalH
set_option linter.unusedVariables false
namespace Go.Proofs.Ytgdjedbkiaojhaa
open Go.RowKit

set_option maxRecDepth 100000 in
theorem countR_ok (cv : Array Value) (c : Town) (a b : Int) (w : World) (hcv : CityV w (.agg cv) c) (ha : Cal.okDay a) (hb : Cal.okDay b) :
    Calls Try.prog 27 #[.agg cv, .int .i64 a, .int .i64 b] w (NextPost (Cal.cnt c a b) 0 w) := by
  have hcvH := Lib.hid hcv
  obtain ⟨nm, o, cu, r, f, s, e6, i1, i2, i3⟩ := hcv
  obtain ⟨ra, rn, rc, rfl⟩ := i1.slice
  obtain ⟨fa, fn, fc, rfl⟩ := i2.slice
  obtain ⟨sa, sn, sc, rfl⟩ := i3.slice
  clear i1 i2 i3
  simp only [Value.agg.injEq] at e6
  subst e6
  have haH := Lib.hid ha
  have hbH := Lib.hid hb
  obtain ⟨h1, h2⟩ := ha
  obtain ⟨h3, h4⟩ := hb
  have hX := Lib.hid (show Cal.cnt c a b = ((Cal.opens c a (b + 1 - a).toNat).length : Int) from rfl)
  generalize Cal.cnt c a b = X at *
  go_enter Try.func27, Try.ntmps27
  go_wp2_with (first
    | (go_at_call 13; ((with_reducible refine (validR_yes _ _ haH.out).mono ?_); rintro e w' ⟨rfl, rfl⟩))
    | (go_at_call 13; ((with_reducible refine (validR_yes _ _ hbH.out).mono ?_); rintro e w' ⟨rfl, rfl⟩)))
  go_loopw [8, 9, 10, 11] (fun nv dv x y wr => ∃ k : Nat, (k = 0 ∨ a + k ≤ b + 1) ∧ dv = .int .i64 (a + k) ∧ nv = .int .i64 ((Cal.opens c a k).length : Int) ∧ Below w.heap.size w wr ∧
      wr.heap[w.heap.size]? = some (.cells #[.string nm, .int .i64 o, .int .i64 cu, .slice ra rn rc, .slice fa fn fc, .slice sa sn sc] 34)) (fun _ d _ _ _ => (b + 1 - intOf d).toNat)
  case atStart => exact ⟨0, .inl rfl, by simp, rfl, (Below.refl _ _).alloc (Nat.le_refl _) _, World.alloc_heap_new _ _⟩
  case round =>
    obtain ⟨k, hk, rfl, rfl, hB, hcr⟩ := hrel
    have hkH := Lib.hid hk
    clear hk
    have cB := Lib.hid (hcvH.out.to hB)
    have c0 := cell_of_blk (o := 0) hcr rfl
    have c1 := cell_of_blk (o := 1) hcr rfl
    have c2 := cell_of_blk (o := 2) hcr rfl
    have c3 := cell_of_blk (o := 3) hcr rfl
    have c4 := cell_of_blk (o := 4) hcr rfl
    have c5 := cell_of_blk (o := 5) hcr rfl
    have hsB := (World.block_lt_of_cell? wr _ c0)
    have hlen := Cal.opens_len c a k
    by_cases hlt : a + k ≤ b
    · have hdk := Lib.hid (show Cal.okDay (a + k) from ⟨by omega, by omega⟩)
      have hl2 : ((Cal.opens c a k).length : Int) ≤ 100000 := by omega
      cases hp : Cal.openD c (a + k) with
      | true =>
        have HP := Lib.hid hp
        clear hp
        go_wp2_with fail
        refine (openR_ok _ c _ _ _ cB.out hdk.out HP.out).mono ?_
        rintro e w1 ⟨rfl, hb⟩
        have hb2 := hb.block w.heap.size hsB
        go_wp2_with fail
        go_roundw
        case rel => exact ⟨k + 1, .inr (by omega), by congr 1; omega, by rw [Cal.opens_yes c a k HP.out]; simp, hB.trans (hb.mono hB.size), hb2.trans hcr⟩
        case measure => simp [intOf]; omega
      | false =>
        have HP := Lib.hid hp
        clear hp
        go_wp2_with fail
        refine (openR_ok _ c _ _ _ cB.out hdk.out HP.out).mono ?_
        rintro e w1 ⟨rfl, hb⟩
        have hb2 := hb.block w.heap.size hsB
        go_wp2_with fail
        go_roundw
        case rel => exact ⟨k + 1, .inr (by omega), by congr 1; omega, by rw [Cal.opens_no c a k HP.out], hB.trans (hb.mono hB.size), hb2.trans hcr⟩
        case measure => simp [intOf]; omega
    · have hr : Hid (((Cal.opens c a k).length : Int) = X) := by
        show _ = _
        rw [hX.out, show (b + 1 - a).toNat = k from by have := hkH.out; omega]
      go_wp2
      go_ret2
      exact ⟨ret2i hr.out rfl, hB⟩

theorem countR_no (cv : Array Value) (c : Town) (a b : Int) (w : World) (hcv : CityV w (.agg cv) c) (h : ¬ (Cal.okDay a ∧ Cal.okDay b)) :
    Calls Try.prog 27 #[.agg cv, .int .i64 a, .int .i64 b] w (NextPost 0 3 w) := by
  obtain ⟨nm, o, cu, r, f, s, e6, i1, i2, i3⟩ := hcv
  obtain ⟨ra, rn, rc, rfl⟩ := i1.slice
  obtain ⟨fa, fn, fc, rfl⟩ := i2.slice
  obtain ⟨sa, sn, sc, rfl⟩ := i3.slice
  clear i1 i2 i3
  simp only [Value.agg.injEq] at e6
  subst e6
  by_cases ha : Cal.okDay a
  · have h1 := Lib.hid (show ¬ Cal.okDay b from fun hb => h ⟨ha, hb⟩)
    have ha := Lib.hid ha
    clear h
    go_enter Try.func27, Try.ntmps27
    go_wp2_with fail
    refine (validR_yes _ _ ha.out).mono ?_
    rintro e w' ⟨rfl, rfl⟩
    go_wp2_with fail
    refine (validR_no _ _ h1.out).mono ?_
    rintro e w' ⟨rfl, rfl⟩
    go_wp2_with fail
    go_ret2
    exact ⟨rfl, (Below.refl _ _).alloc (Nat.le_refl _) _⟩
  · have ha := Lib.hid ha
    clear h
    go_enter Try.func27, Try.ntmps27
    go_wp2_with fail
    refine (validR_no _ _ ha.out).mono ?_
    rintro e w' ⟨rfl, rfl⟩
    go_wp2_with fail
    go_ret2
    exact ⟨rfl, (Below.refl _ _).alloc (Nat.le_refl _) _⟩

theorem countR_calls (cv : Array Value) (c : Town) (a b : Int) (w : World) (hcv : CityV w (.agg cv) c) :
    Calls Try.prog 27 #[.agg cv, .int .i64 a, .int .i64 b] w (NextPost (Cal.cntV c a b) (Cal.cntE a b) w) := by
  by_cases h : Cal.okDay a ∧ Cal.okDay b
  · unfold Cal.cntV Cal.cntE; rw [if_pos h, if_pos h]; exact countR_ok cv c a b w hcv h.1 h.2
  · unfold Cal.cntV Cal.cntE; rw [if_neg h, if_neg h]; exact countR_no cv c a b w hcv h

theorem plus_no (cv : Array Value) (c : Town) (d n : Int) (w : World) (hcv : CityV w (.agg cv) c) (h : ¬ (Cal.okDay d ∧ 0 ≤ n ∧ n ≤ 20000)) :
    Calls Try.prog 24 #[.agg cv, .int .i64 d, .int .i64 n] w (NextPost 0 3 w) := by
  obtain ⟨nm, o, cu, r, f, s, e6, i1, i2, i3⟩ := hcv
  obtain ⟨ra, rn, rc, rfl⟩ := i1.slice
  obtain ⟨fa, fn, fc, rfl⟩ := i2.slice
  obtain ⟨sa, sn, sc, rfl⟩ := i3.slice
  clear i1 i2 i3
  simp only [Value.agg.injEq] at e6
  subst e6
  by_cases hd : Cal.okDay d
  · have h2 : n < 0 ∨ (0 ≤ n ∧ 20000 < n) := by
      apply Classical.byContradiction; intro h6; exact h ⟨hd, by omega, by omega⟩
    have h0 := hd.1
    have h9 := hd.2
    clear h hd
    rcases h2 with h2 | ⟨h3, h2⟩
    all_goals
      go_enter Try.func24, Try.ntmps24
      go_wp2_with (go_at_call 30; refine (valid_yes _ _ h0 h9).mono ?_; rintro e w' ⟨rfl, rfl⟩)
      go_ret2
      exact ⟨rfl, (Below.refl _ _).alloc (Nat.le_refl _) _⟩
  · have h1 : d < 0 ∨ 100000 < d := by unfold Cal.okDay at hd; omega
    have h1 := Lib.hid h1
    clear h hd
    go_enter Try.func24, Try.ntmps24
    go_wp2_with (go_at_call 30; refine (valid_no _ _ h1.out).mono ?_; rintro e w' ⟨rfl, rfl⟩)
    go_ret2
    exact ⟨rfl, (Below.refl _ _).alloc (Nat.le_refl _) _⟩
theorem plusR_no (cv : Array Value) (c : Town) (d n : Int) (w : World) (hcv : CityV w (.agg cv) c) (h : ¬ (Cal.okDay d ∧ 0 ≤ n ∧ n ≤ 20000)) :
    Calls Try.prog 25 #[.agg cv, .int .i64 d, .int .i64 n] w (NextPost 0 3 w) := by
  obtain ⟨nm, o, cu, r, f, s, e6, i1, i2, i3⟩ := hcv
  obtain ⟨ra, rn, rc, rfl⟩ := i1.slice
  obtain ⟨fa, fn, fc, rfl⟩ := i2.slice
  obtain ⟨sa, sn, sc, rfl⟩ := i3.slice
  clear i1 i2 i3
  simp only [Value.agg.injEq] at e6
  subst e6
  by_cases hd : Cal.okDay d
  · have h2 : n < 0 ∨ (0 ≤ n ∧ 20000 < n) := by
      apply Classical.byContradiction; intro h6; exact h ⟨hd, by omega, by omega⟩
    have hdH := Lib.hid hd
    clear h hd
    rcases h2 with h2 | ⟨h3, h2⟩
    all_goals
      go_enter Try.func25, Try.ntmps25
      go_wp2_with (go_at_call 13; refine (validR_yes _ _ hdH.out).mono ?_; rintro e w' ⟨rfl, rfl⟩)
      go_ret2
      exact ⟨rfl, (Below.refl _ _).alloc (Nat.le_refl _) _⟩
  · have h1 := Lib.hid hd
    clear h hd
    go_enter Try.func25, Try.ntmps25
    go_wp2_with (go_at_call 13; refine (validR_no _ _ h1.out).mono ?_; rintro e w' ⟨rfl, rfl⟩)
    go_ret2
    exact ⟨rfl, (Below.refl _ _).alloc (Nat.le_refl _) _⟩
theorem plus_calls (cv : Array Value) (c : Town) (d n : Int) (w : World) (hcv : CityV w (.agg cv) c) :
    Calls Try.prog 24 #[.agg cv, .int .i64 d, .int .i64 n] w (NextPost (Cal.got (Cal.plusAll c d n)) (Cal.gotE (Cal.plusAll c d n)) w) := by
  by_cases h : Cal.okDay d ∧ 0 ≤ n ∧ n ≤ 20000
  · rw [show Cal.plusAll c d n = Cal.plus c n.toNat d from if_pos h]; exact plus_ok cv c d n w hcv h.1.1 h.1.2 h.2.1 h.2.2
  · rw [show Cal.plusAll c d n = none from if_neg h]; exact plus_no cv c d n w hcv h
theorem plusR_calls (cv : Array Value) (c : Town) (d n : Int) (w : World) (hcv : CityV w (.agg cv) c) :
    Calls Try.prog 25 #[.agg cv, .int .i64 d, .int .i64 n] w (NextPost (Cal.got (Cal.plusAll c d n)) (Cal.gotE (Cal.plusAll c d n)) w) := by
  by_cases h : Cal.okDay d ∧ 0 ≤ n ∧ n ≤ 20000
  · rw [show Cal.plusAll c d n = Cal.plus c n.toNat d from if_pos h]; exact plusR_ok cv c d n w hcv h.1 h.2.1 h.2.2
  · rw [show Cal.plusAll c d n = none from if_neg h]; exact plusR_no cv c d n w hcv h

/-! ### at whatever day -/
namespace Cal
def dY (d : Int) : Int := if okDay d then cvY d else 0
def dM (d : Int) : Int := if okDay d then cvM d else 0
def dD (d : Int) : Int := if okDay d then cvD d else 0
def dE (d : Int) : Int := if okDay d then 0 else 3
def wV (d : Int) : Int := if okDay d then (d + 5) % 7 else 0
def opB (c : Town) (d : Int) : Bool := if okDay d then openD c d else false
end Cal
theorem date_calls (d : Int) (w : World) :
    Calls Try.prog 11 #[.int .i64 d] w fun e w' => e = .returned (.tuple #[.int .i64 (Cal.dY d), .int .i64 (Cal.dM d), .int .i64 (Cal.dD d), .int .i64 (Cal.dE d)]) ∧ w = w' := by
  unfold Cal.dY Cal.dM Cal.dD Cal.dE
  by_cases h : Cal.okDay d
  · rw [if_pos h, if_pos h, if_pos h, if_pos h]; exact date_ok d w h.1 h.2
  · rw [if_neg h, if_neg h, if_neg h, if_neg h]; exact date_bad d w h
theorem dateR_calls (d : Int) (w : World) :
    Calls Try.prog 16 #[.int .i64 d] w fun e w' => e = .returned (.tuple #[.int .i64 (Cal.dY d), .int .i64 (Cal.dM d), .int .i64 (Cal.dD d), .int .i64 (Cal.dE d)]) ∧ w = w' := by
  unfold Cal.dY Cal.dM Cal.dD Cal.dE
  by_cases h : Cal.okDay d
  · rw [if_pos h, if_pos h, if_pos h, if_pos h]; exact dateR_ok d w h
  · rw [if_neg h, if_neg h, if_neg h, if_neg h]; exact dateR_no d w h
theorem weekday_calls (d : Int) (w : World) :
    Calls Try.prog 12 #[.int .i64 d] w fun e w' => e = .returned (.tuple #[.int .i64 (Cal.wV d), .int .i64 (Cal.dE d)]) ∧ w = w' := by
  unfold Cal.wV Cal.dE
  by_cases h : Cal.okDay d
  · rw [if_pos h, if_pos h]; exact weekday_ok d w h.1 h.2
  · rw [if_neg h, if_neg h]; exact weekday_bad d w h
theorem weekdayR_calls (d : Int) (w : World) :
    Calls Try.prog 18 #[.int .i64 d] w fun e w' => e = .returned (.tuple #[.int .i64 (Cal.wV d), .int .i64 (Cal.dE d)]) ∧ w = w' := by
  unfold Cal.wV Cal.dE
  by_cases h : Cal.okDay d
  · rw [if_pos h, if_pos h]; exact weekdayR_ok d w h
  · rw [if_neg h, if_neg h]; exact weekdayR_no d w h
def OpenPost (b : Bool) (e : Int) (w : World) (x : Ending) (w' : World) : Prop := x = .returned (.tuple #[.bool b, .int .i64 e]) ∧ Below w.heap.size w w'
theorem openC_calls (cv : Array Value) (c : Town) (d : Int) (w : World) (hcv : CityV w (.agg cv) c) :
    Calls Try.prog 20 #[.agg cv, .int .i64 d] w (OpenPost (Cal.opB c d) (Cal.dE d) w) := by
  unfold Cal.opB Cal.dE
  by_cases h : Cal.okDay d
  · rw [if_pos h, if_pos h]; exact openC_ok cv c d w hcv h.1 h.2
  · rw [if_neg h, if_neg h]; exact openC_no cv c d w hcv h
theorem openR_calls (cv : Array Value) (c : Town) (d : Int) (w : World) (hcv : CityV w (.agg cv) c) :
    Calls Try.prog 21 #[.agg cv, .int .i64 d] w (OpenPost (Cal.opB c d) (Cal.dE d) w) := by
  unfold Cal.opB Cal.dE
  by_cases h : Cal.okDay d
  · rw [if_pos h, if_pos h]; exact openR_ok cv c d _ w hcv h rfl
  · rw [if_neg h, if_neg h]; exact openR_no cv c d w hcv h

/-! ### few -/
theorem few_walk (nm : ByteArray) (o cu : Int) (ra fa sa : Option Addr) (rn rc fn fc sn sc : Nat) (w : World) :
    Calls Try.prog 15 #[.agg #[.string nm, .int .i64 o, .int .i64 cu, .slice ra rn rc, .slice fa fn fc, .slice sa sn sc]] w fun e w' =>
      e = .returned (.bool (decide (rn ≤ 40) && decide (fn ≤ 40) && decide (sn ≤ 40))) ∧ Below w.heap.size w w' := by
  have hB : ∀ t, Below w.heap.size w (w.alloc t) := fun t => (Below.refl _ _).alloc (Nat.le_refl _) _
  have hBH := Lib.hid hB
  clear hB
  by_cases h1 : rn ≤ 40
  · by_cases h2 : fn ≤ 40
    · by_cases h3 : sn ≤ 40
      · go_enter Try.func15, Try.ntmps15
        go_wp2
        go_ret
        exact ⟨by apply ret1b; simp [h1, h2, h3]; try omega, hBH.out _⟩
      · go_enter Try.func15, Try.ntmps15
        go_wp2
        go_ret
        exact ⟨by apply ret1b; simp [h1, h2, h3]; try omega, hBH.out _⟩
    · have b2 : decide ((fn : Int) ≤ 40) = false := by simp; omega
      go_enter Try.func15, Try.ntmps15
      go_wp2
      go_ret
      exact ⟨by apply ret1b; simp [h1, h2]; try omega, hBH.out _⟩
  · go_enter Try.func15, Try.ntmps15
    go_wp2
    go_ret
    exact ⟨by apply ret1b; simp, hBH.out _⟩
end Go.Proofs.Ytgdjedbkiaojhaa
