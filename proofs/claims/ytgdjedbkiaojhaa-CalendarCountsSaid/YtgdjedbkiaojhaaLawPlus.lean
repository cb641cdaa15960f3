/- The walk of the law CalendarPlus: it answers true, and nothing that lay has turned. -/
import Derived.Test.YtgdjedbkiaojhaaLawNext
set_option linter.unusedVariables false
namespace Go.Proofs.Ytgdjedbkiaojhaa
open Go.RowKit

theorem plus_is (cv : Array Value) (c : Town) (d n : Int) (X : Option Int) (w : World) (hcv : CityV w (.agg cv) c) (h : Cal.plusAll c d n = X) :
    Calls Try.prog 24 #[.agg cv, .int .i64 d, .int .i64 n] w (NextPost (Cal.got X) (Cal.gotE X) w) := by
  subst h; exact plus_calls cv c d n w hcv
theorem count_is (cv : Array Value) (c : Town) (a b x : Int) (w : World) (hcv : CityV w (.agg cv) c) (ha : Cal.okDay a) (hb : Cal.okDay b) (h : Cal.cnt c a b = x) :
    Calls Try.prog 26 #[.agg cv, .int .i64 a, .int .i64 b] w (NextPost x 0 w) := by
  subst h; exact count_ok cv c a b w hcv ha.1 ha.2 hb.1 hb.2

set_option maxRecDepth 100000 in
set_option maxHeartbeats 4000000 in
theorem plusL_long (rn fn sn : Nat) (nm : ByteArray) (o cu : Int) (ra fa sa : Option Addr) (rc fc sc : Nat) (d n m : Int) (w : World) (n0 : 0 ≤ n) (n9 : n ≤ 65535) (m0 : 0 ≤ m) (m9 : m ≤ 65535)
    (hf : (decide (rn ≤ 40) && decide (fn ≤ 40) && decide (sn ≤ 40)) = false) :
    Calls Try.prog 7 #[.agg #[.string nm, .int .i64 o, .int .i64 cu, .slice ra rn rc, .slice fa fn fc, .slice sa sn sc], .int .i64 d, .int .u16 n, .int .u16 m] w fun e w' => e = .returned (.bool true) ∧ Below w.heap.size w w' := by
  have HB := Lib.hid (show Below w.heap.size w (w.alloc (.cells #[.string nm, .int .i64 o, .int .i64 cu, .slice ra rn rc, .slice fa fn fc, .slice sa sn sc] 34)) from (Below.refl _ _).alloc (Nat.le_refl _) _)
  have HX := Lib.hid (World.alloc_heap_new w (.cells #[.string nm, .int .i64 o, .int .i64 cu, .slice ra rn rc, .slice fa fn fc, .slice sa sn sc] 34))
  have hfH := Lib.hid hf
  clear hf
  go_enter Try.func7, Try.ntmps7
  go_wp2_with fail
  refine (small_calls _).mono ?_
  rintro e w1 ⟨rfl, hb⟩
  have B1 := HB.out.trans (hb.mono HB.out.size)
  have x1 := blk_to hb HX.out
  clear hb
  have c0 := cell_of_blk (o := 0) x1 rfl
  have c1 := cell_of_blk (o := 1) x1 rfl
  have c2 := cell_of_blk (o := 2) x1 rfl
  have c3 := cell_of_blk (o := 3) x1 rfl
  have c4 := cell_of_blk (o := 4) x1 rfl
  have c5 := cell_of_blk (o := 5) x1 rfl
  go_wp2_with fail
  refine (few_walk _ _ _ _ _ _ _ _ _ _ _ _ _).mono ?_
  rw [hfH.out]
  rintro e w2 ⟨rfl, hb⟩
  go_wp2_with fail
  go_ret
  exact ⟨rfl, B1.trans (hb.mono B1.size)⟩

set_option maxRecDepth 100000 in
set_option maxHeartbeats 8000000 in
theorem plusL_short (c : Town) (rn fn sn : Nat) (nm : ByteArray) (o cu : Int) (ra fa sa : Option Addr) (rc fc sc : Nat) (d n m : Int) (w : World) (n0 : 0 ≤ n) (n9 : n ≤ 65535) (m0 : 0 ≤ m) (m9 : m ≤ 65535)
    (hf : (decide (rn ≤ 40) && decide (fn ≤ 40) && decide (sn ≤ 40)) = true)
    (hcv : CityV w (.agg #[.string nm, .int .i64 o, .int .i64 cu, .slice ra rn rc, .slice fa fn fc, .slice sa sn sc]) c) :
    Calls Try.prog 7 #[.agg #[.string nm, .int .i64 o, .int .i64 cu, .slice ra rn rc, .slice fa fn fc, .slice sa sn sc], .int .i64 d, .int .u16 n, .int .u16 m] w fun e w' => e = .returned (.bool true) ∧ Below w.heap.size w w' := by
  have HB := Lib.hid (show Below w.heap.size w (w.alloc (.cells #[.string nm, .int .i64 o, .int .i64 cu, .slice ra rn rc, .slice fa fn fc, .slice sa sn sc] 34)) from (Below.refl _ _).alloc (Nat.le_refl _) _)
  have HX := Lib.hid (World.alloc_heap_new w (.cells #[.string nm, .int .i64 o, .int .i64 cu, .slice ra rn rc, .slice fa fn fc, .slice sa sn sc] 34))
  have hfH := Lib.hid hf
  have hc := Lib.hid hcv
  clear hf hcv
  go_enter Try.func7, Try.ntmps7
  go_wp2_with fail
  refine (small_calls _).mono ?_
  rintro e w1 ⟨rfl, hb⟩
  have B1 := HB.out.trans (hb.mono HB.out.size)
  have x1 := blk_to hb HX.out
  clear hb
  have c0 := cell_of_blk (o := 0) x1 rfl
  have c1 := cell_of_blk (o := 1) x1 rfl
  have c2 := cell_of_blk (o := 2) x1 rfl
  have c3 := cell_of_blk (o := 3) x1 rfl
  have c4 := cell_of_blk (o := 4) x1 rfl
  have c5 := cell_of_blk (o := 5) x1 rfl
  go_wp2_with fail
  refine (few_walk _ _ _ _ _ _ _ _ _ _ _ _ _).mono ?_
  rw [hfH.out]
  rintro e w2 ⟨rfl, hb⟩
  have B2 := B1.trans (hb.mono B1.size)
  have x2 := blk_to hb x1
  clear hb c0 c1 c2 c3 c4 c5 x1 B1
  have c0 := cell_of_blk (o := 0) x2 rfl
  have c1 := cell_of_blk (o := 1) x2 rfl
  have c2 := cell_of_blk (o := 2) x2 rfl
  have c3 := cell_of_blk (o := 3) x2 rfl
  have c4 := cell_of_blk (o := 4) x2 rfl
  have c5 := cell_of_blk (o := 5) x2 rfl
  by_cases hd : Cal.okDay d
  · have hdH := Lib.hid hd
    have d0 := hd.1
    have d9 := hd.2
    clear hd
    go_wp2_with (go_at_call 13; refine (validR_yes d _ hdH.out).mono ?_; rintro e w' ⟨rfl, rfl⟩)
    have a0 : 0 ≤ n % 300 := by omega
    have a9 : n % 300 ≤ 299 := by omega
    have b0 : 0 ≤ m % 300 := by omega
    have b9 : m % 300 ≤ 299 := by omega
    generalize n % 300 = a at *
    generalize m % 300 = b at *
    have hpa := Lib.hid (show Cal.plusAll c d a = Cal.plus c a.toNat d from if_pos ⟨hdH.out, a0, by omega⟩)
    have hpab := Lib.hid (show Cal.plusAll c d (a + b) = (match Cal.plus c a.toNat d with | none => none | some x => Cal.plus c b.toNat x) from by
      rw [show Cal.plusAll c d (a + b) = Cal.plus c (a + b).toNat d from if_pos ⟨hdH.out, by omega, by omega⟩, show (a + b).toNat = a.toNat + b.toNat from by omega, Cal.plus_add]
      rfl)
    cases hX : Cal.plus c a.toNat d with
    | none =>
      have h1 := Lib.hid (hpa.out.trans hX)
      have h2 : Hid (Cal.plusAll c d (a + b) = none) := by have := hpab.out; rw [hX] at this; exact this
      clear hX hpa hpab
      go_wp2_with fail
      refine (plus_is _ c _ _ _ _ (hc.out.to B2) h1.out).mono ?_
      rw [Cal.got_none, Cal.gotE_none]
      rintro e w3 ⟨rfl, hb⟩
      have B3 := B2.trans (hb.mono B2.size)
      have x3 := blk_to hb x2
      clear hb c0 c1 c2 c3 c4 c5 x2 B2
      have c0 := cell_of_blk (o := 0) x3 rfl
      have c1 := cell_of_blk (o := 1) x3 rfl
      have c2 := cell_of_blk (o := 2) x3 rfl
      have c3 := cell_of_blk (o := 3) x3 rfl
      have c4 := cell_of_blk (o := 4) x3 rfl
      have c5 := cell_of_blk (o := 5) x3 rfl
      go_wp2_with fail
      refine (plus_is _ c _ _ _ _ (hc.out.to B3) h2.out).mono ?_
      rw [Cal.got_none, Cal.gotE_none]
      rintro e w4 ⟨rfl, hb⟩
      have B4 := B3.trans (hb.mono B3.size)
      have x4 := blk_to hb x3
      clear hb c0 c1 c2 c3 c4 c5 x3 B3
      have c0 := cell_of_blk (o := 0) x4 rfl
      have c1 := cell_of_blk (o := 1) x4 rfl
      have c2 := cell_of_blk (o := 2) x4 rfl
      have c3 := cell_of_blk (o := 3) x4 rfl
      have c4 := cell_of_blk (o := 4) x4 rfl
      have c5 := cell_of_blk (o := 5) x4 rfl
      go_wp2_with fail
      go_ret
      exact ⟨rfl, B4⟩
    | some x =>
      obtain ⟨s1, s2, s3, s4, s5⟩ := Cal.plus_some c _ _ _ hX hdH.out
      have h1 := Lib.hid (hpa.out.trans hX)
      have h3 := Lib.hid (show Cal.plusAll c x b = Cal.plus c b.toNat x from if_pos ⟨s1, b0, by omega⟩)
      have h2 : Hid (Cal.plusAll c d (a + b) = Cal.plus c b.toNat x) := by have := hpab.out; rw [hX] at this; exact this
      generalize Cal.plus c b.toNat x = Y at *
      have hxo := Lib.hid s1
      have x0 := s1.1
      have x9 := s1.2
      have s3 := Lib.hid s3
      have s4 := Lib.hid s4
      have s5 := Lib.hid s5
      clear hX hpa hpab s1
      go_wp2_with fail
      refine (plus_is _ c _ _ _ _ (hc.out.to B2) h1.out).mono ?_
      rw [Cal.got_some, Cal.gotE_some]
      rintro e w3 ⟨rfl, hb⟩
      have B3 := B2.trans (hb.mono B2.size)
      have x3 := blk_to hb x2
      clear hb c0 c1 c2 c3 c4 c5 x2 B2
      have c0 := cell_of_blk (o := 0) x3 rfl
      have c1 := cell_of_blk (o := 1) x3 rfl
      have c2 := cell_of_blk (o := 2) x3 rfl
      have c3 := cell_of_blk (o := 3) x3 rfl
      have c4 := cell_of_blk (o := 4) x3 rfl
      have c5 := cell_of_blk (o := 5) x3 rfl
      go_wp2_with fail
      refine (plus_is _ c _ _ _ _ (hc.out.to B3) h2.out).mono ?_
      rintro e w4 ⟨rfl, hb⟩
      have B4 := B3.trans (hb.mono B3.size)
      have x4 := blk_to hb x3
      clear hb c0 c1 c2 c3 c4 c5 x3 B3
      have c0 := cell_of_blk (o := 0) x4 rfl
      have c1 := cell_of_blk (o := 1) x4 rfl
      have c2 := cell_of_blk (o := 2) x4 rfl
      have c3 := cell_of_blk (o := 3) x4 rfl
      have c4 := cell_of_blk (o := 4) x4 rfl
      have c5 := cell_of_blk (o := 5) x4 rfl
      rcases (by omega : a = 0 ∨ 0 < a) with ha | ha
      · have hxd : x = d := s3.out (by omega)
        subst hxd
        have hz : (a == 0) = true := by simp [ha]
        have hxx : (x != x) = false := by simp
        have haH := Lib.hid ha
        clear ha
        have ha2 : ¬ 0 < a := by have := haH.out; omega
        go_wp2_with fail
        refine (plus_is _ c _ _ _ _ (hc.out.to B4) h3.out).mono ?_
        rintro e w5 ⟨rfl, hb⟩
        have B5 := B4.trans (hb.mono B4.size)
        have x5 := blk_to hb x4
        clear hb c0 c1 c2 c3 c4 c5 x4 B4
        have c0 := cell_of_blk (o := 0) x5 rfl
        have c1 := cell_of_blk (o := 1) x5 rfl
        have c2 := cell_of_blk (o := 2) x5 rfl
        have c3 := cell_of_blk (o := 3) x5 rfl
        have c4 := cell_of_blk (o := 4) x5 rfl
        have c5 := cell_of_blk (o := 5) x5 rfl
        go_wp2_with fail
        go_ret
        exact ⟨rfl, B5⟩
      · obtain ⟨g1, g2⟩ := s4.out (by omega)
        have hop := Lib.hid g2
        have hcn : Hid (Cal.cnt c (d + 1) x = a) := by show _ = _; rw [Cal.cnt_after c d x g1, s5.out]; omega
        have hd1 := Lib.hid (show Cal.okDay (d + 1) from ⟨by omega, by omega⟩)
        have hz : (a == 0) = false := by simp; omega
        have hxd : (x == d) = false := by simp; omega
        clear g2
        go_wp2_with fail
        refine (plus_is _ c _ _ _ _ (hc.out.to B4) h3.out).mono ?_
        rintro e w5 ⟨rfl, hb⟩
        have B5 := B4.trans (hb.mono B4.size)
        have x5 := blk_to hb x4
        clear hb c0 c1 c2 c3 c4 c5 x4 B4
        have c0 := cell_of_blk (o := 0) x5 rfl
        have c1 := cell_of_blk (o := 1) x5 rfl
        have c2 := cell_of_blk (o := 2) x5 rfl
        have c3 := cell_of_blk (o := 3) x5 rfl
        have c4 := cell_of_blk (o := 4) x5 rfl
        have c5 := cell_of_blk (o := 5) x5 rfl
        go_wp2_with fail
        refine (openC_is _ c _ _ _ (hc.out.to B5) hxo.out hop.out).mono ?_
        rintro e w6 ⟨rfl, hb⟩
        have B6 := B5.trans (hb.mono B5.size)
        have x6 := blk_to hb x5
        clear hb c0 c1 c2 c3 c4 c5 x5 B5
        have c0 := cell_of_blk (o := 0) x6 rfl
        have c1 := cell_of_blk (o := 1) x6 rfl
        have c2 := cell_of_blk (o := 2) x6 rfl
        have c3 := cell_of_blk (o := 3) x6 rfl
        have c4 := cell_of_blk (o := 4) x6 rfl
        have c5 := cell_of_blk (o := 5) x6 rfl
        go_wp2_with fail
        refine (count_is _ c _ _ _ _ (hc.out.to B6) hd1.out hxo.out hcn.out).mono ?_
        rintro e w7 ⟨rfl, hb⟩
        have B7 := B6.trans (hb.mono B6.size)
        have x7 := blk_to hb x6
        clear hb c0 c1 c2 c3 c4 c5 x6 B6
        have c0 := cell_of_blk (o := 0) x7 rfl
        have c1 := cell_of_blk (o := 1) x7 rfl
        have c2 := cell_of_blk (o := 2) x7 rfl
        have c3 := cell_of_blk (o := 3) x7 rfl
        have c4 := cell_of_blk (o := 4) x7 rfl
        have c5 := cell_of_blk (o := 5) x7 rfl
        go_wp2_with fail
        go_ret
        exact ⟨by apply ret1b; simp, B7⟩
  · have hdH := Lib.hid hd
    clear hd
    go_wp2_with (go_at_call 13; refine (validR_no d _ hdH.out).mono ?_; rintro e w' ⟨rfl, rfl⟩)
    go_ret
    exact ⟨rfl, B2⟩
end Go.Proofs.Ytgdjedbkiaojhaa
