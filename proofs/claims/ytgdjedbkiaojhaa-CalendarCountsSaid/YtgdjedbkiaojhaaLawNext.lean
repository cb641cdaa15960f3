/- The walk of the law CalendarNext: it answers true, and nothing that lay has turned. -/
import Derived.Test.YtgdjedbkiaojhaaRefD
import Derived.Test.YtgdjedbkiaojhaaCalLaw3
set_option linter.unusedVariables false
namespace Go.Proofs.Ytgdjedbkiaojhaa
open Go.RowKit

theorem next_is (cv : Array Value) (c : Town) (d : Int) (X : Option Int) (w : World) (hcv : CityV w (.agg cv) c) (h : Cal.nx1 c d = X) :
    Calls Try.prog 22 #[.agg cv, .int .i64 d] w (NextPost (Cal.got X) (Cal.gotE X) w) := by
  subst h; exact next_calls cv c d w hcv
theorem openC_is (cv : Array Value) (c : Town) (d : Int) (p : Bool) (w : World) (hcv : CityV w (.agg cv) c) (hd : Cal.okDay d) (h : Cal.openD c d = p) :
    Calls Try.prog 20 #[.agg cv, .int .i64 d] w (OpenPost p 0 w) := by
  subst h; exact openC_ok cv c d w hcv hd.1 hd.2

set_option maxRecDepth 100000 in
set_option maxHeartbeats 4000000 in
/-- the law where the lists are long -/
theorem next_long (rn fn sn : Nat) (nm : ByteArray) (o cu : Int) (ra fa sa : Option Addr) (rc fc sc : Nat) (d : Int) (w : World)
    (hf : (decide (rn ≤ 40) && decide (fn ≤ 40) && decide (sn ≤ 40)) = false) :
    Calls Try.prog 6 #[.agg #[.string nm, .int .i64 o, .int .i64 cu, .slice ra rn rc, .slice fa fn fc, .slice sa sn sc], .int .i64 d] w fun e w' => e = .returned (.bool true) ∧ Below w.heap.size w w' := by
  have HB := Lib.hid (show Below w.heap.size w (w.alloc (.cells #[.string nm, .int .i64 o, .int .i64 cu, .slice ra rn rc, .slice fa fn fc, .slice sa sn sc] 34)) from (Below.refl _ _).alloc (Nat.le_refl _) _)
  have HX := Lib.hid (World.alloc_heap_new w (.cells #[.string nm, .int .i64 o, .int .i64 cu, .slice ra rn rc, .slice fa fn fc, .slice sa sn sc] 34))
  have hfH := Lib.hid hf
  clear hf
  go_enter Try.func6, Try.ntmps6
  go_wp2_with fail
  refine (small_calls _).mono ?_
  rintro e w1 ⟨rfl, hb⟩
  have B1 := HB.out.trans (hb.mono HB.out.size)
  have x1 := blk_to hb HX.out
  clear hb
  have c0 := cell_of_blk (o := 0) x1 rfl
  have c1 := cell_of_blk (o := 1) x1 rfl
  have c2 := cell_of_blk (o := 2) x1 rfl
  have c3 := cell_of_blk (o := 3) x1 rfl
  have c4 := cell_of_blk (o := 4) x1 rfl
  have c5 := cell_of_blk (o := 5) x1 rfl
  go_wp2_with fail
  refine (few_walk _ _ _ _ _ _ _ _ _ _ _ _ _).mono ?_
  rw [hfH.out]
  rintro e w2 ⟨rfl, hb⟩
  go_wp2_with fail
  go_ret
  exact ⟨rfl, B1.trans (hb.mono B1.size)⟩

set_option maxRecDepth 100000 in
set_option maxHeartbeats 8000000 in
theorem next_short (c : Town) (rn fn sn : Nat) (nm : ByteArray) (o cu : Int) (ra fa sa : Option Addr) (rc fc sc : Nat) (d : Int) (w : World)
    (hf : (decide (rn ≤ 40) && decide (fn ≤ 40) && decide (sn ≤ 40)) = true)
    (hcv : CityV w (.agg #[.string nm, .int .i64 o, .int .i64 cu, .slice ra rn rc, .slice fa fn fc, .slice sa sn sc]) c) :
    Calls Try.prog 6 #[.agg #[.string nm, .int .i64 o, .int .i64 cu, .slice ra rn rc, .slice fa fn fc, .slice sa sn sc], .int .i64 d] w fun e w' => e = .returned (.bool true) ∧ Below w.heap.size w w' := by
  have HB := Lib.hid (show Below w.heap.size w (w.alloc (.cells #[.string nm, .int .i64 o, .int .i64 cu, .slice ra rn rc, .slice fa fn fc, .slice sa sn sc] 34)) from (Below.refl _ _).alloc (Nat.le_refl _) _)
  have HX := Lib.hid (World.alloc_heap_new w (.cells #[.string nm, .int .i64 o, .int .i64 cu, .slice ra rn rc, .slice fa fn fc, .slice sa sn sc] 34))
  have hfH := Lib.hid hf
  have hc := Lib.hid hcv
  clear hf hcv
  go_enter Try.func6, Try.ntmps6
  go_wp2_with fail
  refine (small_calls _).mono ?_
  rintro e w1 ⟨rfl, hb⟩
  have B1 := HB.out.trans (hb.mono HB.out.size)
  have x1 := blk_to hb HX.out
  clear hb
  have c0 := cell_of_blk (o := 0) x1 rfl
  have c1 := cell_of_blk (o := 1) x1 rfl
  have c2 := cell_of_blk (o := 2) x1 rfl
  have c3 := cell_of_blk (o := 3) x1 rfl
  have c4 := cell_of_blk (o := 4) x1 rfl
  have c5 := cell_of_blk (o := 5) x1 rfl
  go_wp2_with fail
  refine (few_walk _ _ _ _ _ _ _ _ _ _ _ _ _).mono ?_
  rw [hfH.out]
  rintro e w2 ⟨rfl, hb⟩
  have B2 := B1.trans (hb.mono B1.size)
  have x2 := blk_to hb x1
  clear hb c0 c1 c2 c3 c4 c5 x1 B1
  have c0 := cell_of_blk (o := 0) x2 rfl
  have c1 := cell_of_blk (o := 1) x2 rfl
  have c2 := cell_of_blk (o := 2) x2 rfl
  have c3 := cell_of_blk (o := 3) x2 rfl
  have c4 := cell_of_blk (o := 4) x2 rfl
  have c5 := cell_of_blk (o := 5) x2 rfl
  by_cases hd : Cal.okDay d
  · have hdH := Lib.hid hd
    have d0 := hd.1
    have d9 := hd.2
    clear hd
    -- the loop over the days that are looked at: all are closed
    cases hX : Cal.nx1 c d with
    | none =>
      have hno := Lib.hid (Cal.nx1_no hdH.out hX)
      have HN := Lib.hid hX
      clear hX
      go_wp2_with fail
      refine (next_is _ c _ _ _ (hc.out.to B2) HN.out).mono ?_
      rw [Cal.got_none, Cal.gotE_none]
      rintro e w3 ⟨rfl, hb⟩
      have B3 := B2.trans (hb.mono B2.size)
      have x3 := blk_to hb x2
      clear hb c0 c1 c2 c3 c4 c5 x2 B2
      rcases (by omega : d + 400 ≤ 100000 ∨ 100000 < d + 400) with hm | hm
      all_goals
        go_wp2_with (go_at_call 13; refine (validR_yes d _ hdH.out).mono ?_; rintro e w' ⟨rfl, rfl⟩)
        go_loopw [4, 13, 14, 15] (fun a iv x y wr => ∃ i : Int, d ≤ i ∧ i ≤ d + 401 ∧ i ≤ 100001 ∧ iv = .int .i64 i ∧ Below w.heap.size w wr ∧
            wr.heap[w.heap.size]? = some (.cells #[.string nm, .int .i64 o, .int .i64 cu, .slice ra rn rc, .slice fa fn fc, .slice sa sn sc] 34)) (fun _ i _ _ _ => (100001 - intOf i).toNat)
        case atStart => exact ⟨d, by omega, by omega, by omega, rfl, B3, x3⟩
        case round =>
          obtain ⟨i, i0, i1, i2, rfl, B4, x4⟩ := hrel
          have c0 := cell_of_blk (o := 0) x4 rfl
          have c1 := cell_of_blk (o := 1) x4 rfl
          have c2 := cell_of_blk (o := 2) x4 rfl
          have c3 := cell_of_blk (o := 3) x4 rfl
          have c4 := cell_of_blk (o := 4) x4 rfl
          have c5 := cell_of_blk (o := 5) x4 rfl
          by_cases hlt : i < d + 401 ∧ i < 100001
          · obtain ⟨l1, l2⟩ := hlt
            have hi := Lib.hid (hno.out i i0 (by omega) (by omega))
            have hio := Lib.hid (show Cal.okDay i from ⟨by omega, by omega⟩)
            go_wp2_with fail
            refine (openC_is _ c _ _ _ (hc.out.to B4) hio.out hi.out).mono ?_
            rintro e w5 ⟨rfl, hb⟩
            have B5 := B4.trans (hb.mono B4.size)
            have x5 := blk_to hb x4
            clear hb
            go_wp2_with fail
            go_roundw
            case rel => exact ⟨i + 1, by omega, by omega, by omega, rfl, B5, x5⟩
            case measure => simp [intOf]; omega
          · go_wp2_with fail
            go_ret
            exact ⟨rfl, B4⟩
    | some x =>
      obtain ⟨_, s1, s2, s3, s4, s5⟩ := Cal.nx1_spec hX
      have hno := Lib.hid s5
      have hxo := Lib.hid (show Cal.okDay x from ⟨by omega, s3⟩)
      have hself := Lib.hid (Cal.nx1_self hxo.out s4)
      have hop := Lib.hid s4
      have HN := Lib.hid hX
      clear hX s4 s5
      go_wp2_with fail
      refine (next_is _ c _ _ _ (hc.out.to B2) HN.out).mono ?_
      rw [Cal.got_some, Cal.gotE_some]
      rintro e w3 ⟨rfl, hb⟩
      have B3 := B2.trans (hb.mono B2.size)
      have x3 := blk_to hb x2
      clear hb c0 c1 c2 c3 c4 c5 x2 B2
      rcases (by omega : d + 400 ≤ 100000 ∨ 100000 < d + 400) with hm | hm
      all_goals
        have c0 := cell_of_blk (o := 0) x3 rfl
        have c1 := cell_of_blk (o := 1) x3 rfl
        have c2 := cell_of_blk (o := 2) x3 rfl
        have c3 := cell_of_blk (o := 3) x3 rfl
        have c4 := cell_of_blk (o := 4) x3 rfl
        have c5 := cell_of_blk (o := 5) x3 rfl
        go_wp2_with (go_at_call 13; refine (validR_yes d _ hdH.out).mono ?_; rintro e w' ⟨rfl, rfl⟩)
        refine (openC_is _ c _ _ _ (hc.out.to B3) hxo.out hop.out).mono ?_
        rintro e w4 ⟨rfl, hb⟩
        have B4 := B3.trans (hb.mono B3.size)
        have x4 := blk_to hb x3
        clear hb c0 c1 c2 c3 c4 c5 x3 B3
        have c0 := cell_of_blk (o := 0) x4 rfl
        have c1 := cell_of_blk (o := 1) x4 rfl
        have c2 := cell_of_blk (o := 2) x4 rfl
        have c3 := cell_of_blk (o := 3) x4 rfl
        have c4 := cell_of_blk (o := 4) x4 rfl
        have c5 := cell_of_blk (o := 5) x4 rfl
        go_wp2_with fail
        refine (next_is _ c _ _ _ (hc.out.to B4) hself.out).mono ?_
        rw [Cal.got_some, Cal.gotE_some]
        rintro e w5 ⟨rfl, hb⟩
        have B5 := B4.trans (hb.mono B4.size)
        have x5 := blk_to hb x4
        clear hb c0 c1 c2 c3 c4 c5 x4 B4
        go_wp2_with fail
        go_loopw [4, 13, 14, 15] (fun a iv x' y wr => ∃ i : Int, d ≤ i ∧ i ≤ x ∧ iv = .int .i64 i ∧ Below w.heap.size w wr ∧
            wr.heap[w.heap.size]? = some (.cells #[.string nm, .int .i64 o, .int .i64 cu, .slice ra rn rc, .slice fa fn fc, .slice sa sn sc] 34)) (fun _ i _ _ _ => (100001 - intOf i).toNat)
        case atStart => exact ⟨d, by omega, by omega, rfl, B5, x5⟩
        case round =>
          obtain ⟨i, i0, i1, rfl, B6, x6⟩ := hrel
          have c0 := cell_of_blk (o := 0) x6 rfl
          have c1 := cell_of_blk (o := 1) x6 rfl
          have c2 := cell_of_blk (o := 2) x6 rfl
          have c3 := cell_of_blk (o := 3) x6 rfl
          have c4 := cell_of_blk (o := 4) x6 rfl
          have c5 := cell_of_blk (o := 5) x6 rfl
          by_cases hlt : i < x
          · have hi := Lib.hid (hno.out i i0 hlt)
            have hio := Lib.hid (show Cal.okDay i from ⟨by omega, by omega⟩)
            go_wp2_with fail
            refine (openC_is _ c _ _ _ (hc.out.to B6) hio.out hi.out).mono ?_
            rintro e w7 ⟨rfl, hb⟩
            have B7 := B6.trans (hb.mono B6.size)
            have x7 := blk_to hb x6
            clear hb
            go_wp2_with fail
            go_roundw
            case rel => exact ⟨i + 1, by omega, by omega, rfl, B7, x7⟩
            case measure => simp [intOf]; omega
          · go_wp2_with fail
            go_ret
            exact ⟨rfl, B6⟩
  · have hdH := Lib.hid hd
    clear hd
    have HN := Lib.hid (show Cal.nx1 c d = none from if_neg hdH.out)
    go_wp2_with fail
    refine (next_is _ c _ _ _ (hc.out.to B2) HN.out).mono ?_
    rw [Cal.got_none, Cal.gotE_none]
    rintro e w3 ⟨rfl, hb⟩
    have B3 := B2.trans (hb.mono B2.size)
    go_wp2_with (go_at_call 13; refine (validR_no d _ hdH.out).mono ?_; rintro e w' ⟨rfl, rfl⟩)
    go_ret
    exact ⟨rfl, B3⟩
end Go.Proofs.Ytgdjedbkiaojhaa
