/- The walk of the law CalendarTells: it answers true, and nothing that lay has turned. -/
import Derived.Test.YtgdjedbkiaojhaaRefD
set_option linter.unusedVariables false
namespace Go.Proofs.Ytgdjedbkiaojhaa
open Go.RowKit

set_option maxRecDepth 100000 in
set_option maxHeartbeats 8000000 in
theorem tells_walk (cv : Array Value) (c : Town) (rn fn sn : Nat) (nm : ByteArray) (o cu : Int) (ra fa sa : Option Addr) (rc fc sc : Nat) (d y m k n t : Int) (w : World)
    (hv : cv = #[.string nm, .int .i64 o, .int .i64 cu, .slice ra rn rc, .slice fa fn fc, .slice sa sn sc])
    (hcv : rn ≤ 40 → fn ≤ 40 → sn ≤ 40 → CityV w (.agg cv) c) :
    Calls Try.prog 5 #[.agg cv, .int .i64 d, .int .i64 y, .int .i64 m, .int .i64 k, .int .i64 n, .int .i64 t] w fun e w' => e = .returned (.bool true) ∧ Below w.heap.size w w' := by
  have hcvH := Lib.hid hcv
  subst hv
  clear hcv
  have hB0 : Below w.heap.size w (w.alloc (.cells #[.string nm, .int .i64 o, .int .i64 cu, .slice ra rn rc, .slice fa fn fc, .slice sa sn sc] 34)) := (Below.refl _ _).alloc (Nat.le_refl _) _
  have hx0 := World.alloc_heap_new w (.cells #[.string nm, .int .i64 o, .int .i64 cu, .slice ra rn rc, .slice fa fn fc, .slice sa sn sc] 34)
  have HB := Lib.hid hB0
  have HX := Lib.hid hx0
  clear hB0 hx0
  by_cases hf : (decide (rn ≤ 40) && decide (fn ≤ 40) && decide (sn ≤ 40)) = true
  · have hc : Hid (CityV w (.agg #[.string nm, .int .i64 o, .int .i64 cu, .slice ra rn rc, .slice fa fn fc, .slice sa sn sc]) c) := by
      simp only [Bool.and_eq_true, decide_eq_true_eq] at hf
      exact hcvH.out hf.1.1 hf.1.2 hf.2
    have hfH := Lib.hid hf
    clear hf hcvH
    go_enter Try.func5, Try.ntmps5
    go_wp2_with fail
    refine (small_calls _).mono ?_
    rintro e w1 ⟨rfl, hb⟩
    have B1 := HB.out.trans (hb.mono HB.out.size)
    have x1 := blk_to hb HX.out
    clear hb
    have c0 := cell_of_blk (o := 0) x1 rfl
    have c1 := cell_of_blk (o := 1) x1 rfl
    have c2 := cell_of_blk (o := 2) x1 rfl
    have c3 := cell_of_blk (o := 3) x1 rfl
    have c4 := cell_of_blk (o := 4) x1 rfl
    have c5 := cell_of_blk (o := 5) x1 rfl
    go_wp2_with fail
    refine (few_walk _ _ _ _ _ _ _ _ _ _ _ _ _).mono ?_
    rw [hfH.out]
    rintro e w2 ⟨rfl, hb⟩
    have B2 := B1.trans (hb.mono B1.size)
    have x2 := blk_to hb x1
    clear hb c0 c1 c2 c3 c4 c5 x1 B1
    have c0 := cell_of_blk (o := 0) x2 rfl
    have c1 := cell_of_blk (o := 1) x2 rfl
    have c2 := cell_of_blk (o := 2) x2 rfl
    have c3 := cell_of_blk (o := 3) x2 rfl
    have c4 := cell_of_blk (o := 4) x2 rfl
    have c5 := cell_of_blk (o := 5) x2 rfl
    go_wp2_with (first
      | (go_at_call 11; refine (date_calls _ _).mono ?_; rintro e w' ⟨rfl, rfl⟩)
      | (go_at_call 16; refine (dateR_calls _ _).mono ?_; rintro e w' ⟨rfl, rfl⟩)
      | (go_at_call 10; refine (day_calls _ _ _ _).mono ?_; rintro e w' ⟨rfl, rfl⟩)
      | (go_at_call 17; refine (dayR_calls _ _ _ _).mono ?_; rintro e w' ⟨rfl, rfl⟩)
      | (go_at_call 12; refine (weekday_calls _ _).mono ?_; rintro e w' ⟨rfl, rfl⟩)
      | (go_at_call 18; refine (weekdayR_calls _ _).mono ?_; rintro e w' ⟨rfl, rfl⟩)
      | (go_at_call 14; refine (addMonths_calls _ _ _).mono ?_; rintro e w' ⟨rfl, rfl⟩)
      | (go_at_call 19; refine (addMonthsR_calls _ _ _).mono ?_; rintro e w' ⟨rfl, rfl⟩))
    go_wp2_with fail
    refine (openC_calls _ c _ _ (hc.out.to B2)).mono ?_
    rintro e w3 ⟨rfl, hb⟩
    have B3 := B2.trans (hb.mono B2.size)
    have x3 := blk_to hb x2
    clear hb c0 c1 c2 c3 c4 c5 x2 B2
    have c0 := cell_of_blk (o := 0) x3 rfl
    have c1 := cell_of_blk (o := 1) x3 rfl
    have c2 := cell_of_blk (o := 2) x3 rfl
    have c3 := cell_of_blk (o := 3) x3 rfl
    have c4 := cell_of_blk (o := 4) x3 rfl
    have c5 := cell_of_blk (o := 5) x3 rfl
    go_wp2_with fail
    refine (openR_calls _ c _ _ (hc.out.to B3)).mono ?_
    rintro e w4 ⟨rfl, hb⟩
    have B4 := B3.trans (hb.mono B3.size)
    have x4 := blk_to hb x3
    clear hb c0 c1 c2 c3 c4 c5 x3 B3
    have c0 := cell_of_blk (o := 0) x4 rfl
    have c1 := cell_of_blk (o := 1) x4 rfl
    have c2 := cell_of_blk (o := 2) x4 rfl
    have c3 := cell_of_blk (o := 3) x4 rfl
    have c4 := cell_of_blk (o := 4) x4 rfl
    have c5 := cell_of_blk (o := 5) x4 rfl
    go_wp2_with fail
    refine (next_calls _ c _ _ (hc.out.to B4)).mono ?_
    rintro e w5 ⟨rfl, hb⟩
    have B5 := B4.trans (hb.mono B4.size)
    have x5 := blk_to hb x4
    clear hb c0 c1 c2 c3 c4 c5 x4 B4
    have c0 := cell_of_blk (o := 0) x5 rfl
    have c1 := cell_of_blk (o := 1) x5 rfl
    have c2 := cell_of_blk (o := 2) x5 rfl
    have c3 := cell_of_blk (o := 3) x5 rfl
    have c4 := cell_of_blk (o := 4) x5 rfl
    have c5 := cell_of_blk (o := 5) x5 rfl
    go_wp2_with fail
    refine (nextR_calls _ c _ _ (hc.out.to B5)).mono ?_
    rintro e w6 ⟨rfl, hb⟩
    have B6 := B5.trans (hb.mono B5.size)
    have x6 := blk_to hb x5
    clear hb c0 c1 c2 c3 c4 c5 x5 B5
    have c0 := cell_of_blk (o := 0) x6 rfl
    have c1 := cell_of_blk (o := 1) x6 rfl
    have c2 := cell_of_blk (o := 2) x6 rfl
    have c3 := cell_of_blk (o := 3) x6 rfl
    have c4 := cell_of_blk (o := 4) x6 rfl
    have c5 := cell_of_blk (o := 5) x6 rfl
    by_cases hn : n ≤ 300 ∨ 20000 < n
    · rcases (by omega : n ≤ 300 ∨ (300 < n ∧ 20000 < n)) with g | ⟨g1, g2⟩
      all_goals
        clear hn
        go_wp2_with fail
        refine (plus_calls _ c _ _ _ (hc.out.to B6)).mono ?_
        rintro e w7 ⟨rfl, hb⟩
        have B7 := B6.trans (hb.mono B6.size)
        have x7 := blk_to hb x6
        clear hb c0 c1 c2 c3 c4 c5 x6 B6
        have c0 := cell_of_blk (o := 0) x7 rfl
        have c1 := cell_of_blk (o := 1) x7 rfl
        have c2 := cell_of_blk (o := 2) x7 rfl
        have c3 := cell_of_blk (o := 3) x7 rfl
        have c4 := cell_of_blk (o := 4) x7 rfl
        have c5 := cell_of_blk (o := 5) x7 rfl
        go_wp2_with fail
        refine (plusR_calls _ c _ _ _ (hc.out.to B7)).mono ?_
        rintro e w8 ⟨rfl, hb⟩
        have B8 := B7.trans (hb.mono B7.size)
        have x8 := blk_to hb x7
        clear hb c0 c1 c2 c3 c4 c5 x7 B7
        have c0 := cell_of_blk (o := 0) x8 rfl
        have c1 := cell_of_blk (o := 1) x8 rfl
        have c2 := cell_of_blk (o := 2) x8 rfl
        have c3 := cell_of_blk (o := 3) x8 rfl
        have c4 := cell_of_blk (o := 4) x8 rfl
        have c5 := cell_of_blk (o := 5) x8 rfl
        by_cases hd : Cal.okDay d
        · have hdH := Lib.hid hd
          have d0 := hd.1
          have d9 := hd.2
          clear hd
          by_cases ht : Cal.okDay t
          · have htH := Lib.hid ht
            have t0 := ht.1
            have t9 := ht.2
            clear ht
            by_cases h3 : 3000 < t - d
            · go_wp2_with (first
                  | (go_at_call 13; ((with_reducible refine (validR_yes d _ hdH.out).mono ?_); rintro e w' ⟨rfl, rfl⟩))
                  | (go_at_call 13; ((with_reducible refine (validR_yes t _ htH.out).mono ?_); rintro e w' ⟨rfl, rfl⟩)))
              go_ret
              exact ⟨rfl, B8⟩
            · go_wp2_with (first
                  | (go_at_call 13; ((with_reducible refine (validR_yes d _ hdH.out).mono ?_); rintro e w' ⟨rfl, rfl⟩))
                  | (go_at_call 13; ((with_reducible refine (validR_yes t _ htH.out).mono ?_); rintro e w' ⟨rfl, rfl⟩)))
              refine (count_calls _ c _ _ _ (hc.out.to B8)).mono ?_
              rintro e w9 ⟨rfl, hb⟩
              have B9 := B8.trans (hb.mono B8.size)
              have x9 := blk_to hb x8
              clear hb c0 c1 c2 c3 c4 c5 x8 B8
              have c0 := cell_of_blk (o := 0) x9 rfl
              have c1 := cell_of_blk (o := 1) x9 rfl
              have c2 := cell_of_blk (o := 2) x9 rfl
              have c3 := cell_of_blk (o := 3) x9 rfl
              have c4 := cell_of_blk (o := 4) x9 rfl
              have c5 := cell_of_blk (o := 5) x9 rfl
              go_wp2_with fail
              refine (countR_calls _ c _ _ _ (hc.out.to B9)).mono ?_
              rintro e w10 ⟨rfl, hb⟩
              have B10 := B9.trans (hb.mono B9.size)
              have x10 := blk_to hb x9
              clear hb c0 c1 c2 c3 c4 c5 x9 B9
              have c0 := cell_of_blk (o := 0) x10 rfl
              have c1 := cell_of_blk (o := 1) x10 rfl
              have c2 := cell_of_blk (o := 2) x10 rfl
              have c3 := cell_of_blk (o := 3) x10 rfl
              have c4 := cell_of_blk (o := 4) x10 rfl
              have c5 := cell_of_blk (o := 5) x10 rfl
              go_wp2_with fail
              go_ret
              exact ⟨by apply ret1b; simp, B10⟩
          · have htH := Lib.hid ht
            clear ht
            go_wp2_with (first
                | (go_at_call 13; ((with_reducible refine (validR_yes d _ hdH.out).mono ?_); rintro e w' ⟨rfl, rfl⟩))
                | (go_at_call 13; ((with_reducible refine (validR_no t _ htH.out).mono ?_); rintro e w' ⟨rfl, rfl⟩)))
            refine (count_calls _ c _ _ _ (hc.out.to B8)).mono ?_
            rintro e w9 ⟨rfl, hb⟩
            have B9 := B8.trans (hb.mono B8.size)
            have x9 := blk_to hb x8
            clear hb c0 c1 c2 c3 c4 c5 x8 B8
            have c0 := cell_of_blk (o := 0) x9 rfl
            have c1 := cell_of_blk (o := 1) x9 rfl
            have c2 := cell_of_blk (o := 2) x9 rfl
            have c3 := cell_of_blk (o := 3) x9 rfl
            have c4 := cell_of_blk (o := 4) x9 rfl
            have c5 := cell_of_blk (o := 5) x9 rfl
            go_wp2_with fail
            refine (countR_calls _ c _ _ _ (hc.out.to B9)).mono ?_
            rintro e w10 ⟨rfl, hb⟩
            have B10 := B9.trans (hb.mono B9.size)
            have x10 := blk_to hb x9
            clear hb c0 c1 c2 c3 c4 c5 x9 B9
            have c0 := cell_of_blk (o := 0) x10 rfl
            have c1 := cell_of_blk (o := 1) x10 rfl
            have c2 := cell_of_blk (o := 2) x10 rfl
            have c3 := cell_of_blk (o := 3) x10 rfl
            have c4 := cell_of_blk (o := 4) x10 rfl
            have c5 := cell_of_blk (o := 5) x10 rfl
            go_wp2_with fail
            go_ret
            exact ⟨by apply ret1b; simp, B10⟩
        · have hdH := Lib.hid hd
          clear hd
          go_wp2_with (go_at_call 13; ((with_reducible refine (validR_no d _ hdH.out).mono ?_); rintro e w' ⟨rfl, rfl⟩))
          refine (count_calls _ c _ _ _ (hc.out.to B8)).mono ?_
          rintro e w9 ⟨rfl, hb⟩
          have B9 := B8.trans (hb.mono B8.size)
          have x9 := blk_to hb x8
          clear hb c0 c1 c2 c3 c4 c5 x8 B8
          have c0 := cell_of_blk (o := 0) x9 rfl
          have c1 := cell_of_blk (o := 1) x9 rfl
          have c2 := cell_of_blk (o := 2) x9 rfl
          have c3 := cell_of_blk (o := 3) x9 rfl
          have c4 := cell_of_blk (o := 4) x9 rfl
          have c5 := cell_of_blk (o := 5) x9 rfl
          go_wp2_with fail
          refine (countR_calls _ c _ _ _ (hc.out.to B9)).mono ?_
          rintro e w10 ⟨rfl, hb⟩
          have B10 := B9.trans (hb.mono B9.size)
          have x10 := blk_to hb x9
          clear hb c0 c1 c2 c3 c4 c5 x9 B9
          have c0 := cell_of_blk (o := 0) x10 rfl
          have c1 := cell_of_blk (o := 1) x10 rfl
          have c2 := cell_of_blk (o := 2) x10 rfl
          have c3 := cell_of_blk (o := 3) x10 rfl
          have c4 := cell_of_blk (o := 4) x10 rfl
          have c5 := cell_of_blk (o := 5) x10 rfl
          go_wp2_with fail
          go_ret
          exact ⟨by apply ret1b; simp, B10⟩
    · have g1 : 300 < n := by omega
      have g2 : n ≤ 20000 := by omega
      clear hn
      by_cases hd : Cal.okDay d
      · have hdH := Lib.hid hd
        have d0 := hd.1
        have d9 := hd.2
        clear hd
        by_cases ht : Cal.okDay t
        · have htH := Lib.hid ht
          have t0 := ht.1
          have t9 := ht.2
          clear ht
          by_cases h3 : 3000 < t - d
          · go_wp2_with (first
                | (go_at_call 13; ((with_reducible refine (validR_yes d _ hdH.out).mono ?_); rintro e w' ⟨rfl, rfl⟩))
                | (go_at_call 13; ((with_reducible refine (validR_yes t _ htH.out).mono ?_); rintro e w' ⟨rfl, rfl⟩)))
            go_ret
            exact ⟨rfl, B6⟩
          · go_wp2_with (first
                | (go_at_call 13; ((with_reducible refine (validR_yes d _ hdH.out).mono ?_); rintro e w' ⟨rfl, rfl⟩))
                | (go_at_call 13; ((with_reducible refine (validR_yes t _ htH.out).mono ?_); rintro e w' ⟨rfl, rfl⟩)))
            refine (count_calls _ c _ _ _ (hc.out.to B6)).mono ?_
            rintro e w7 ⟨rfl, hb⟩
            have B7 := B6.trans (hb.mono B6.size)
            have x7 := blk_to hb x6
            clear hb c0 c1 c2 c3 c4 c5 x6 B6
            have c0 := cell_of_blk (o := 0) x7 rfl
            have c1 := cell_of_blk (o := 1) x7 rfl
            have c2 := cell_of_blk (o := 2) x7 rfl
            have c3 := cell_of_blk (o := 3) x7 rfl
            have c4 := cell_of_blk (o := 4) x7 rfl
            have c5 := cell_of_blk (o := 5) x7 rfl
            go_wp2_with fail
            refine (countR_calls _ c _ _ _ (hc.out.to B7)).mono ?_
            rintro e w8 ⟨rfl, hb⟩
            have B8 := B7.trans (hb.mono B7.size)
            have x8 := blk_to hb x7
            clear hb c0 c1 c2 c3 c4 c5 x7 B7
            have c0 := cell_of_blk (o := 0) x8 rfl
            have c1 := cell_of_blk (o := 1) x8 rfl
            have c2 := cell_of_blk (o := 2) x8 rfl
            have c3 := cell_of_blk (o := 3) x8 rfl
            have c4 := cell_of_blk (o := 4) x8 rfl
            have c5 := cell_of_blk (o := 5) x8 rfl
            go_wp2_with fail
            go_ret
            exact ⟨by apply ret1b; simp, B8⟩
        · have htH := Lib.hid ht
          clear ht
          go_wp2_with (first
              | (go_at_call 13; ((with_reducible refine (validR_yes d _ hdH.out).mono ?_); rintro e w' ⟨rfl, rfl⟩))
              | (go_at_call 13; ((with_reducible refine (validR_no t _ htH.out).mono ?_); rintro e w' ⟨rfl, rfl⟩)))
          refine (count_calls _ c _ _ _ (hc.out.to B6)).mono ?_
          rintro e w7 ⟨rfl, hb⟩
          have B7 := B6.trans (hb.mono B6.size)
          have x7 := blk_to hb x6
          clear hb c0 c1 c2 c3 c4 c5 x6 B6
          have c0 := cell_of_blk (o := 0) x7 rfl
          have c1 := cell_of_blk (o := 1) x7 rfl
          have c2 := cell_of_blk (o := 2) x7 rfl
          have c3 := cell_of_blk (o := 3) x7 rfl
          have c4 := cell_of_blk (o := 4) x7 rfl
          have c5 := cell_of_blk (o := 5) x7 rfl
          go_wp2_with fail
          refine (countR_calls _ c _ _ _ (hc.out.to B7)).mono ?_
          rintro e w8 ⟨rfl, hb⟩
          have B8 := B7.trans (hb.mono B7.size)
          have x8 := blk_to hb x7
          clear hb c0 c1 c2 c3 c4 c5 x7 B7
          have c0 := cell_of_blk (o := 0) x8 rfl
          have c1 := cell_of_blk (o := 1) x8 rfl
          have c2 := cell_of_blk (o := 2) x8 rfl
          have c3 := cell_of_blk (o := 3) x8 rfl
          have c4 := cell_of_blk (o := 4) x8 rfl
          have c5 := cell_of_blk (o := 5) x8 rfl
          go_wp2_with fail
          go_ret
          exact ⟨by apply ret1b; simp, B8⟩
      · have hdH := Lib.hid hd
        clear hd
        go_wp2_with (go_at_call 13; ((with_reducible refine (validR_no d _ hdH.out).mono ?_); rintro e w' ⟨rfl, rfl⟩))
        refine (count_calls _ c _ _ _ (hc.out.to B6)).mono ?_
        rintro e w7 ⟨rfl, hb⟩
        have B7 := B6.trans (hb.mono B6.size)
        have x7 := blk_to hb x6
        clear hb c0 c1 c2 c3 c4 c5 x6 B6
        have c0 := cell_of_blk (o := 0) x7 rfl
        have c1 := cell_of_blk (o := 1) x7 rfl
        have c2 := cell_of_blk (o := 2) x7 rfl
        have c3 := cell_of_blk (o := 3) x7 rfl
        have c4 := cell_of_blk (o := 4) x7 rfl
        have c5 := cell_of_blk (o := 5) x7 rfl
        go_wp2_with fail
        refine (countR_calls _ c _ _ _ (hc.out.to B7)).mono ?_
        rintro e w8 ⟨rfl, hb⟩
        have B8 := B7.trans (hb.mono B7.size)
        have x8 := blk_to hb x7
        clear hb c0 c1 c2 c3 c4 c5 x7 B7
        have c0 := cell_of_blk (o := 0) x8 rfl
        have c1 := cell_of_blk (o := 1) x8 rfl
        have c2 := cell_of_blk (o := 2) x8 rfl
        have c3 := cell_of_blk (o := 3) x8 rfl
        have c4 := cell_of_blk (o := 4) x8 rfl
        have c5 := cell_of_blk (o := 5) x8 rfl
        go_wp2_with fail
        go_ret
        exact ⟨by apply ret1b; simp, B8⟩
  · have hf : (decide (rn ≤ 40) && decide (fn ≤ 40) && decide (sn ≤ 40)) = false := by simpa using hf
    have hfH := Lib.hid hf
    clear hf hcvH
    go_enter Try.func5, Try.ntmps5
    go_wp2_with fail
    refine (small_calls _).mono ?_
    rintro e w1 ⟨rfl, hb⟩
    have B := HB.out.trans (hb.mono HB.out.size)
    have x := blk_to hb HX.out
    clear hb
    have c0 := cell_of_blk (o := 0) x rfl
    have c1 := cell_of_blk (o := 1) x rfl
    have c2 := cell_of_blk (o := 2) x rfl
    have c3 := cell_of_blk (o := 3) x rfl
    have c4 := cell_of_blk (o := 4) x rfl
    have c5 := cell_of_blk (o := 5) x rfl
    go_wp2_with fail
    refine (few_walk _ _ _ _ _ _ _ _ _ _ _ _ _).mono ?_
    rw [hfH.out]
    rintro e w2 ⟨rfl, hb⟩
    go_wp2_with fail
    go_ret
    exact ⟨rfl, B.trans (hb.mono B.size)⟩
end Go.Proofs.Ytgdjedbkiaojhaa
