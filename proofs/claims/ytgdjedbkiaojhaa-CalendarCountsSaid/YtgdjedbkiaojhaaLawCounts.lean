/- The walk of the law CalendarCounts: it answers true, and nothing that lay has turned. -/
import Derived.Test.YtgdjedbkiaojhaaLawPlus
import Derived.Test.YtgdjedbkiaojhaaAppend
set_option linter.unusedVariables false
namespace Go.Proofs.Ytgdjedbkiaojhaa
open Go.RowKit

theorem intInfo : (Try.prog.info? 3).map (fun i => (i.zero, i.size, i.bytes)) = some (some (.int .i64 0), 1, 8) := by kernel_rfl
theorem src_one (w : World) (u : Value) (e : TypeId) : Src (w.alloc (.cells #[u] e)) (.slice (some ⟨w.heap.size, 0, none⟩) 1 1) 1 [u] :=
  ⟨_, 1, rfl, fun h => by simp at h, fun ad h j y hj => by
    obtain rfl := Option.some.inj h
    rw [addr_add]
    have hc := World.alloc_heap_new w (.cells #[u] e)
    cases j with
    | zero =>
      have : u = y := by simpa using hj
      subst this
      exact cell_of_blk hc rfl
    | succ j => simp at hj⟩

set_option maxRecDepth 100000 in
set_option maxHeartbeats 4000000 in
theorem counts_long (rn fn sn : Nat) (nm : ByteArray) (o cu : Int) (ra fa sa : Option Addr) (rc fc sc : Nat) (a b g s : Int) (w : World)
    (hf : (decide (rn ≤ 40) && decide (fn ≤ 40) && decide (sn ≤ 40)) = false) :
    Calls Try.prog 8 #[.agg #[.string nm, .int .i64 o, .int .i64 cu, .slice ra rn rc, .slice fa fn fc, .slice sa sn sc], .int .i64 a, .int .i64 b, .int .u16 g, .int .i64 s] w fun e w' => e = .returned (.bool true) ∧ Below w.heap.size w w' := by
  have HB := Lib.hid (show Below w.heap.size w (w.alloc (.cells #[.string nm, .int .i64 o, .int .i64 cu, .slice ra rn rc, .slice fa fn fc, .slice sa sn sc] 34)) from (Below.refl _ _).alloc (Nat.le_refl _) _)
  have HX := Lib.hid (World.alloc_heap_new w (.cells #[.string nm, .int .i64 o, .int .i64 cu, .slice ra rn rc, .slice fa fn fc, .slice sa sn sc] 34))
  have hfH := Lib.hid hf
  clear hf
  go_enter Try.func8, Try.ntmps8
  go_wp2_with fail
  refine (small_calls _).mono ?_
  rintro e w1 ⟨rfl, hb⟩
  have B1 := HB.out.trans (hb.mono HB.out.size)
  have x1 := blk_to hb HX.out
  clear hb
  have c0 := cell_of_blk (o := 0) x1 rfl
  have c1 := cell_of_blk (o := 1) x1 rfl
  have c2 := cell_of_blk (o := 2) x1 rfl
  have c3 := cell_of_blk (o := 3) x1 rfl
  have c4 := cell_of_blk (o := 4) x1 rfl
  have c5 := cell_of_blk (o := 5) x1 rfl
  go_wp2_with fail
  refine (few_walk _ _ _ _ _ _ _ _ _ _ _ _ _).mono ?_
  rw [hfH.out]
  rintro e w2 ⟨rfl, hb⟩
  go_wp2_with fail
  go_ret
  exact ⟨rfl, B1.trans (hb.mono B1.size)⟩

set_option maxRecDepth 100000 in
set_option maxHeartbeats 8000000 in
theorem counts_short (c : Town) (rn fn sn : Nat) (nm : ByteArray) (o cu : Int) (ra fa sa : Option Addr) (rc fc sc : Nat) (a b g s : Int) (w : World) (g0 : 0 ≤ g) (g9 : g ≤ 65535)
    (hf : (decide (rn ≤ 40) && decide (fn ≤ 40) && decide (sn ≤ 40)) = true)
    (hcv : CityV w (.agg #[.string nm, .int .i64 o, .int .i64 cu, .slice ra rn rc, .slice fa fn fc, .slice sa sn sc]) c) (hsh : c.shut.length ≤ 40) (hsl : Sl w IntTV 1 (.slice sa sn sc) c.shut) (hsn : sn = c.shut.length) :
    Calls Try.prog 8 #[.agg #[.string nm, .int .i64 o, .int .i64 cu, .slice ra rn rc, .slice fa fn fc, .slice sa sn sc], .int .i64 a, .int .i64 b, .int .u16 g, .int .i64 s] w fun e w' => e = .returned (.bool true) ∧ Below w.heap.size w w' := by
  have HB := Lib.hid (show Below w.heap.size w (w.alloc (.cells #[.string nm, .int .i64 o, .int .i64 cu, .slice ra rn rc, .slice fa fn fc, .slice sa sn sc] 34)) from (Below.refl _ _).alloc (Nat.le_refl _) _)
  have HX := Lib.hid (World.alloc_heap_new w (.cells #[.string nm, .int .i64 o, .int .i64 cu, .slice ra rn rc, .slice fa fn fc, .slice sa sn sc] 34))
  have hfH := Lib.hid hf
  have hc := Lib.hid hcv
  have hslH := Lib.hid hsl
  have hsnH := Lib.hid hsn
  clear hf hcv hsl hsn
  go_enter Try.func8, Try.ntmps8
  go_wp2_with fail
  refine (small_calls _).mono ?_
  rintro e w1 ⟨rfl, hb⟩
  have B1 := HB.out.trans (hb.mono HB.out.size)
  have x1 := blk_to hb HX.out
  clear hb
  have c0 := cell_of_blk (o := 0) x1 rfl
  have c1 := cell_of_blk (o := 1) x1 rfl
  have c2 := cell_of_blk (o := 2) x1 rfl
  have c3 := cell_of_blk (o := 3) x1 rfl
  have c4 := cell_of_blk (o := 4) x1 rfl
  have c5 := cell_of_blk (o := 5) x1 rfl
  go_wp2_with fail
  refine (few_walk _ _ _ _ _ _ _ _ _ _ _ _ _).mono ?_
  rw [hfH.out]
  rintro e w2 ⟨rfl, hb⟩
  have B2 := B1.trans (hb.mono B1.size)
  have x2 := blk_to hb x1
  clear hb c0 c1 c2 c3 c4 c5 x1 B1
  have c0 := cell_of_blk (o := 0) x2 rfl
  have c1 := cell_of_blk (o := 1) x2 rfl
  have c2 := cell_of_blk (o := 2) x2 rfl
  have c3 := cell_of_blk (o := 3) x2 rfl
  have c4 := cell_of_blk (o := 4) x2 rfl
  have c5 := cell_of_blk (o := 5) x2 rfl
  by_cases ha : Cal.okDay a
  · have haH := Lib.hid ha
    have a0 := ha.1
    have a9 := ha.2
    clear ha
    by_cases hb : Cal.okDay b
    · have hbH := Lib.hid hb
      have b0 := hb.1
      have b9 := hb.2
      clear hb
      by_cases h3 : 3000 < b - a
      · go_wp2_with (first
          | (go_at_call 13; ((with_reducible refine (validR_yes a _ haH.out).mono ?_); rintro e w' ⟨rfl, rfl⟩))
          | (go_at_call 13; ((with_reducible refine (validR_yes b _ hbH.out).mono ?_); rintro e w' ⟨rfl, rfl⟩)))
        go_ret
        exact ⟨rfl, B2⟩
      · by_cases hab : b < a
        · have hz := Lib.hid (Cal.cnt_none c a b hab)
          go_wp2_with (first
            | (go_at_call 13; ((with_reducible refine (validR_yes a _ haH.out).mono ?_); rintro e w' ⟨rfl, rfl⟩))
            | (go_at_call 13; ((with_reducible refine (validR_yes b _ hbH.out).mono ?_); rintro e w' ⟨rfl, rfl⟩)))
          refine (count_is _ c _ _ _ _ (hc.out.to B2) haH.out hbH.out hz.out).mono ?_
          rintro e w3 ⟨rfl, hb⟩
          have B3 := B2.trans (hb.mono B2.size)
          have x3 := blk_to hb x2
          clear hb c0 c1 c2 c3 c4 c5 x2 B2
          have c0 := cell_of_blk (o := 0) x3 rfl
          have c1 := cell_of_blk (o := 1) x3 rfl
          have c2 := cell_of_blk (o := 2) x3 rfl
          have c3 := cell_of_blk (o := 3) x3 rfl
          have c4 := cell_of_blk (o := 4) x3 rfl
          have c5 := cell_of_blk (o := 5) x3 rfl
          go_wp2_with fail
          go_ret
          exact ⟨rfl, B3⟩
        · have hm0 : 0 ≤ g % (b - a + 1) := Int.emod_nonneg g (by omega)
          have hm9 : g % (b - a + 1) ≤ b - a := by have := Int.emod_lt_of_pos g (show 0 < b - a + 1 by omega); omega
          obtain ⟨q, hq⟩ : ∃ q, g % (b - a + 1) = q := ⟨_, rfl⟩
          rw [hq] at hm0 hm9
          go_wp2_with (first
            | (go_at_call 13; ((with_reducible refine (validR_yes a _ haH.out).mono ?_); rintro e w' ⟨rfl, rfl⟩))
            | (go_at_call 13; ((with_reducible refine (validR_yes b _ hbH.out).mono ?_); rintro e w' ⟨rfl, rfl⟩)))
          obtain ⟨T, hT⟩ : ∃ T, Cal.cnt c a b = T := ⟨_, rfl⟩
          have hTH := Lib.hid hT
          have hT0 : 0 ≤ T := by rw [← hT]; unfold Cal.cnt; omega
          have hT9 : T ≤ 100001 := by rw [← hT]; unfold Cal.cnt; have := Cal.opens_len c a (b + 1 - a).toNat; omega
          clear hT
          refine (count_is _ c _ _ _ _ (hc.out.to B2) haH.out hbH.out hTH.out).mono ?_
          rintro e w3 ⟨rfl, hb⟩
          have B3 := B2.trans (hb.mono B2.size)
          have x3 := blk_to hb x2
          clear hb c0 c1 c2 c3 c4 c5 x2 B2
          have c0 := cell_of_blk (o := 0) x3 rfl
          have c1 := cell_of_blk (o := 1) x3 rfl
          have c2 := cell_of_blk (o := 2) x3 rfl
          have c3 := cell_of_blk (o := 3) x3 rfl
          have c4 := cell_of_blk (o := 4) x3 rfl
          have c5 := cell_of_blk (o := 5) x3 rfl
          go_wp2_with fail
          have hqH := Lib.hid hq
          clear hq
          have hmo := Lib.hid (show Cal.okDay (a + q) from ⟨by omega, by omega⟩)
          obtain ⟨T1, hT1⟩ : ∃ T1, Cal.cnt c a (a + q) = T1 := ⟨_, rfl⟩
          have hT1H := Lib.hid hT1
          have hT10 : 0 ≤ T1 := by rw [← hT1]; unfold Cal.cnt; omega
          have hT19 : T1 ≤ 100001 := by rw [← hT1]; unfold Cal.cnt; have := Cal.opens_len c a (a + q + 1 - a).toNat; omega
          clear hT1
          go_wp2_with fail
          refine (count_is _ c _ _ _ _ (hc.out.to B3) haH.out hmo.out hT1H.out).mono ?_
          rintro e w4 ⟨rfl, hb⟩
          have B4 := B3.trans (hb.mono B3.size)
          have x4 := blk_to hb x3
          clear hb c0 c1 c2 c3 c4 c5 x3 B3
          have c0 := cell_of_blk (o := 0) x4 rfl
          have c1 := cell_of_blk (o := 1) x4 rfl
          have c2 := cell_of_blk (o := 2) x4 rfl
          have c3 := cell_of_blk (o := 3) x4 rfl
          have c4 := cell_of_blk (o := 4) x4 rfl
          have c5 := cell_of_blk (o := 5) x4 rfl
          by_cases hmb : a + q < b
          · obtain ⟨T2, hT2⟩ : ∃ T2, Cal.cnt c (a + q + 1) b = T2 := ⟨_, rfl⟩
            have hT2H := Lib.hid hT2
            have hT20 : 0 ≤ T2 := by rw [← hT2]; unfold Cal.cnt; omega
            have hT29 : T2 ≤ 100001 := by rw [← hT2]; unfold Cal.cnt; have := Cal.opens_len c (a + q + 1) (b + 1 - (a + q + 1)).toNat; omega
            clear hT2
            have hm1 := Lib.hid (show Cal.okDay (a + q + 1) from ⟨by omega, by omega⟩)
            have hsum : T1 + T2 = T := by rw [← hT1H.out, ← hT2H.out, ← hTH.out]; exact Cal.cnt_parts c a (a + q) b (by omega) hmb
            have hsumb : (T1 + T2 == T) = true := by simp [hsum]
            have hsH := Lib.hid hsum
            clear hsum
            go_wp2_with fail
            refine (count_is _ c _ _ _ _ (hc.out.to B4) hm1.out hbH.out hT2H.out).mono ?_
            rintro e w5 ⟨rfl, hb⟩
            have B5 := B4.trans (hb.mono B4.size)
            have x5 := blk_to hb x4
            clear hb c0 c1 c2 c3 c4 c5 x4 B4
            have c0 := cell_of_blk (o := 0) x5 rfl
            have c1 := cell_of_blk (o := 1) x5 rfl
            have c2 := cell_of_blk (o := 2) x5 rfl
            have c3 := cell_of_blk (o := 3) x5 rfl
            have c4 := cell_of_blk (o := 4) x5 rfl
            have c5 := cell_of_blk (o := 5) x5 rfl
            go_wp2_with fail
            refine (openC_calls _ c _ _ (hc.out.to B5)).mono ?_
            rintro e w6 ⟨rfl, hb⟩
            have B6 := B5.trans (hb.mono B5.size)
            have x6 := blk_to hb x5
            clear hb c0 c1 c2 c3 c4 c5 x5 B5
            have c0 := cell_of_blk (o := 0) x6 rfl
            have c1 := cell_of_blk (o := 1) x6 rfl
            have c2 := cell_of_blk (o := 2) x6 rfl
            have c3 := cell_of_blk (o := 3) x6 rfl
            have c4 := cell_of_blk (o := 4) x6 rfl
            have c5 := cell_of_blk (o := 5) x6 rfl
            go_upto_region 17 with fail
            generalize hW7 : w6.alloc (.cells #[.string nm, .int .i64 o, .int .i64 cu, .slice ra rn rc, .slice fa fn fc, .slice sa sn sc] 34) = W7
            have L7 : W7.heap[w6.heap.size]? = some (.cells #[.string nm, .int .i64 o, .int .i64 cu, .slice ra rn rc, .slice fa fn fc, .slice sa sn sc] 34) := by rw [← hW7]; exact World.alloc_heap_new _ _
            have s7 : W7.heap.size = w6.heap.size + 1 := by rw [← hW7]; simp
            have B7 : Below w.heap.size w W7 := by rw [← hW7]; exact B6.alloc B6.size _
            have b67 : Below w6.heap.size w6 W7 := by rw [← hW7]; exact (Below.refl _ _).alloc (Nat.le_refl _) _
            have x7 := blk_to b67 x6
            clear hW7 c0 c1 c2 c3 c4 c5 x6 b67
            have hL : w.heap.size ≤ w6.heap.size := B6.size
            obtain ⟨L, hLe⟩ : ∃ L, w6.heap.size = L := ⟨_, rfl⟩
            rw [hLe] at L7 s7 hL ⊢
            have hLt : L < W7.heap.size := by omega
            clear hLe B6 s7
            have c0 := cell_of_blk (o := 0) x7 rfl
            have c1 := cell_of_blk (o := 1) x7 rfl
            have c2 := cell_of_blk (o := 2) x7 rfl
            have c3 := cell_of_blk (o := 3) x7 rfl
            have c4 := cell_of_blk (o := 4) x7 rfl
            have c5 := cell_of_blk (o := 5) x7 rfl
            have c5a : ∀ o, (W7.alloc o).cell? ⟨w.heap.size, 5, none⟩ = some (.slice sa sn sc) := fun o => cell_of_blk (o := 5) (blk_to ((Below.refl _ W7).alloc (Nat.le_refl _) o) x7) rfl
            have hsn40 : sn ≤ 40 := by have := hsnH.out; omega
            have src := Lib.hid (show ∀ W', Below w.heap.size w W' → Src W' (.slice sa sn sc) sn (c.shut.map (Value.int .i64)) from fun W' hW' => by
              have h := sl_src (hslH.out.to IntTV.steady hW')
              rw [← hsnH.out] at h; exact h)
            have hlen : Hid ((c.shut.map (Value.int .i64)).length = sn * 1) := by show _ = _; rw [List.length_map, Nat.mul_one]; exact hsnH.out.symm
            obtain ⟨i0, hi, hz0, hz1, hz2⟩ := info_parts intInfo
            have tok1 : True := trivial
            go_upto_region 18 with (first
              | (at_builtin
                 have _t := tok1
                 refine wpList_append_src rfl (.tmp 116) (.tmp 118) _ rfl W7.heap.size 3 i0 _ 1 8 Try.underlying32 hi hz0 hz1 hz2 rfl (by omega) _ 0 [] rfl (own_empty W7 W7.heap.size 3 1 (Nat.le_refl _)) _ sn (c.shut.map (Value.int .i64)) rfl (src.out _ (B7.alloc B7.size _)) hlen.out (by simp [Value.oneCell']) (by omega) (by omega) (by simp) ?_
                 intro v8 w8 own8 gr8
                 have hb8 : Below W7.heap.size W7 w8 := ((Below.refl _ W7).alloc (Nat.le_refl _) _).grown gr8 (by simp) (own_base (own_empty W7 W7.heap.size 3 1 (Nat.le_refl _)))
                 clear tok1)
              | (at_builtin
                 refine wpList_append_src rfl (.tmp 119) (.tmp 121) _ rfl W7.heap.size 3 i0 (.int .i64 0) 1 8 Try.underlying32 hi hz0 hz1 hz2 rfl ?q1 v8 (0 + sn) _ rfl (own8.alloc _) (.slice (some ⟨w8.heap.size, 0, none⟩) 1 1) 1 [.int .i64 s] rfl ?q2 ?q3 ?q4 ?q5 ?q6 ?q7 ?_
                 case q1 => omega
                 case q2 => exact src_one w8 (.int .i64 s) 3
                 case q3 => rfl
                 case q4 => simp [Value.oneCell']
                 case q5 => omega
                 case q6 => omega
                 case q7 => have := hb8.size; simp; omega
                 intro v9 w9 own9 gr9
                 obtain ⟨g9, cap9, rfl⟩ := ownsRow_succ own9
                 have hb9 : Below W7.heap.size W7 w9 := (hb8.alloc hb8.size _).grown gr9 (by have := hb8.size; simp; omega) (own_base own8)
                 have L9 := blk_to hb9 L7
                 have z9 := (cell_of_blk (o := 5) L9 rfl)
                 have f9 := (frozen_of_blk (o := 5) L9)))
            simp only [Nat.zero_add] at own9
            have z0 := cell_of_blk (o := 0) L9 rfl
            have z1 := cell_of_blk (o := 1) L9 rfl
            have z2 := cell_of_blk (o := 2) L9 rfl
            have z3 := cell_of_blk (o := 3) L9 rfl
            have z4 := cell_of_blk (o := 4) L9 rfl
            have z5 := cell_of_blk (o := 5) L9 rfl
            have B10 : Below w.heap.size w (w9.setCell ⟨L, 5, none⟩ (.slice (some ⟨g9, 0, none⟩) (sn + 1) cap9)) := (B7.trans (hb9.mono B7.size)).setCell (p := ⟨L, 5, none⟩) hL _
            have key : ∀ (W : World) (n : Nat) (v : Value) (l : List Value), n = (c.shut ++ [s]).length → l = (c.shut ++ [s]).map (Value.int .i64) → W.ownsRow W7.heap.size 3 1 v n l → Ints W v (c.shut ++ [s]) := by
              rintro W _ v _ rfl rfl h
              exact own_ints h (by simp; omega)
            have hcity : Hid (CityV (w9.setCell ⟨L, 5, none⟩ (.slice (some ⟨g9, 0, none⟩) (sn + 1) cap9)) (.agg #[.string nm, .int .i64 o, .int .i64 cu, .slice ra rn rc, .slice fa fn fc, .slice (some ⟨g9, 0, none⟩) (sn + 1) cap9]) (Cal.lessT c s)) := by
              obtain ⟨_, _, _, _, _, _, e, i1, i2, _⟩ := hc.out.to B10
              simp only [Value.agg.injEq, Array.mk.injEq, List.cons.injEq, and_true, Value.string.injEq, Value.int.injEq, true_and] at e
              obtain ⟨-, -, -, rfl, rfl, -⟩ := e
              exact ⟨_, _, _, _, _, _, rfl, i1, i2, key _ _ _ _ (by have := hsnH.out; simp; omega) (by simp) (own_setCell own9 ⟨L, 5, none⟩ _ hLt)⟩
            clear key own9 gr9 own8 gr8 src c0 c1 c2 c3 c4 c5
            by_cases hs : Cal.okDay s
            · have e1 : Cal.dE s = 0 := if_pos hs
              cases hp : Cal.openD c s with
              | true =>
                have e2 : Cal.opB c s = true := by unfold Cal.opB; rw [if_pos hs]; exact hp
                by_cases r1 : a ≤ s
                · by_cases r2 : s ≤ b
                  · have hR := Lib.hid (show Cal.cnt (Cal.lessT c s) a b = T - 1 from by rw [Cal.cnt_less c s a b (by omega), hTH.out, if_pos ⟨hp, r1, r2⟩]; try omega)
                    go_wp2_with fail
                    refine (count_is _ _ _ _ _ _ hcity.out haH.out hbH.out hR.out).mono ?_
                    rintro e w11 ⟨rfl, hb⟩
                    have hfin := B10.trans (hb.mono B10.size)
                    clear hb
                    go_wp2_with fail
                    go_ret
                    exact ⟨by apply ret1b; first | rfl | simp, hfin⟩
                  · have hR := Lib.hid (show Cal.cnt (Cal.lessT c s) a b = T from by rw [Cal.cnt_less c s a b (by omega), hTH.out, if_neg (fun h => r2 h.2.2)]; try omega)
                    go_wp2_with fail
                    refine (count_is _ _ _ _ _ _ hcity.out haH.out hbH.out hR.out).mono ?_
                    rintro e w11 ⟨rfl, hb⟩
                    have hfin := B10.trans (hb.mono B10.size)
                    clear hb
                    go_wp2_with fail
                    go_ret
                    exact ⟨by apply ret1b; first | rfl | simp, hfin⟩
                · have hR := Lib.hid (show Cal.cnt (Cal.lessT c s) a b = T from by rw [Cal.cnt_less c s a b (by omega), hTH.out, if_neg (fun h => r1 h.2.1)]; try omega)
                  go_wp2_with fail
                  refine (count_is _ _ _ _ _ _ hcity.out haH.out hbH.out hR.out).mono ?_
                  rintro e w11 ⟨rfl, hb⟩
                  have hfin := B10.trans (hb.mono B10.size)
                  clear hb
                  go_wp2_with fail
                  go_ret
                  exact ⟨by apply ret1b; first | rfl | simp, hfin⟩
              | false =>
                have e2 : Cal.opB c s = false := by unfold Cal.opB; rw [if_pos hs]; exact hp
                have hR := Lib.hid (show Cal.cnt (Cal.lessT c s) a b = T from by rw [Cal.cnt_less c s a b (by omega), hTH.out, if_neg (fun h => by have := h.1; rw [hp] at this; simp at this)]; try omega)
                go_wp2_with fail
                refine (count_is _ _ _ _ _ _ hcity.out haH.out hbH.out hR.out).mono ?_
                rintro e w11 ⟨rfl, hb⟩
                have hfin := B10.trans (hb.mono B10.size)
                clear hb
                go_wp2_with fail
                go_ret
                exact ⟨by apply ret1b; first | rfl | simp, hfin⟩
            · have e1 : Cal.dE s = 3 := if_neg hs
              have hR := Lib.hid (show Cal.cnt (Cal.lessT c s) a b = T from by rw [Cal.cnt_less c s a b (by omega), hTH.out, if_neg (fun h => hs ⟨by have := h.2.1; omega, by have := h.2.2; omega⟩)]; try omega)
              go_wp2_with fail
              refine (count_is _ _ _ _ _ _ hcity.out haH.out hbH.out hR.out).mono ?_
              rintro e w11 ⟨rfl, hb⟩
              have hfin := B10.trans (hb.mono B10.size)
              clear hb
              go_wp2_with fail
              go_ret
              exact ⟨by apply ret1b; first | rfl | simp, hfin⟩
          · have hmb2 : a + q = b := by omega
            have hT1e : T = T1 := by rw [← hT1H.out, ← hTH.out, hmb2]
            subst hT1e
            have hmb2 := Lib.hid hmb2
            go_wp2_with fail
            refine (openC_calls _ c _ _ (hc.out.to B4)).mono ?_
            rintro e w6 ⟨rfl, hb⟩
            have B6 := B4.trans (hb.mono B4.size)
            have x6 := blk_to hb x4
            clear hb c0 c1 c2 c3 c4 c5 x4 B4
            have c0 := cell_of_blk (o := 0) x6 rfl
            have c1 := cell_of_blk (o := 1) x6 rfl
            have c2 := cell_of_blk (o := 2) x6 rfl
            have c3 := cell_of_blk (o := 3) x6 rfl
            have c4 := cell_of_blk (o := 4) x6 rfl
            have c5 := cell_of_blk (o := 5) x6 rfl
            go_upto_region 17 with fail
            generalize hW7 : w6.alloc (.cells #[.string nm, .int .i64 o, .int .i64 cu, .slice ra rn rc, .slice fa fn fc, .slice sa sn sc] 34) = W7
            have L7 : W7.heap[w6.heap.size]? = some (.cells #[.string nm, .int .i64 o, .int .i64 cu, .slice ra rn rc, .slice fa fn fc, .slice sa sn sc] 34) := by rw [← hW7]; exact World.alloc_heap_new _ _
            have s7 : W7.heap.size = w6.heap.size + 1 := by rw [← hW7]; simp
            have B7 : Below w.heap.size w W7 := by rw [← hW7]; exact B6.alloc B6.size _
            have b67 : Below w6.heap.size w6 W7 := by rw [← hW7]; exact (Below.refl _ _).alloc (Nat.le_refl _) _
            have x7 := blk_to b67 x6
            clear hW7 c0 c1 c2 c3 c4 c5 x6 b67
            have hL : w.heap.size ≤ w6.heap.size := B6.size
            obtain ⟨L, hLe⟩ : ∃ L, w6.heap.size = L := ⟨_, rfl⟩
            rw [hLe] at L7 s7 hL ⊢
            have hLt : L < W7.heap.size := by omega
            clear hLe B6 s7
            have c0 := cell_of_blk (o := 0) x7 rfl
            have c1 := cell_of_blk (o := 1) x7 rfl
            have c2 := cell_of_blk (o := 2) x7 rfl
            have c3 := cell_of_blk (o := 3) x7 rfl
            have c4 := cell_of_blk (o := 4) x7 rfl
            have c5 := cell_of_blk (o := 5) x7 rfl
            have c5a : ∀ o, (W7.alloc o).cell? ⟨w.heap.size, 5, none⟩ = some (.slice sa sn sc) := fun o => cell_of_blk (o := 5) (blk_to ((Below.refl _ W7).alloc (Nat.le_refl _) o) x7) rfl
            have hsn40 : sn ≤ 40 := by have := hsnH.out; omega
            have src := Lib.hid (show ∀ W', Below w.heap.size w W' → Src W' (.slice sa sn sc) sn (c.shut.map (Value.int .i64)) from fun W' hW' => by
              have h := sl_src (hslH.out.to IntTV.steady hW')
              rw [← hsnH.out] at h; exact h)
            have hlen : Hid ((c.shut.map (Value.int .i64)).length = sn * 1) := by show _ = _; rw [List.length_map, Nat.mul_one]; exact hsnH.out.symm
            obtain ⟨i0, hi, hz0, hz1, hz2⟩ := info_parts intInfo
            have tok1 : True := trivial
            go_upto_region 18 with (first
              | (at_builtin
                 have _t := tok1
                 refine wpList_append_src rfl (.tmp 116) (.tmp 118) _ rfl W7.heap.size 3 i0 _ 1 8 Try.underlying32 hi hz0 hz1 hz2 rfl (by omega) _ 0 [] rfl (own_empty W7 W7.heap.size 3 1 (Nat.le_refl _)) _ sn (c.shut.map (Value.int .i64)) rfl (src.out _ (B7.alloc B7.size _)) hlen.out (by simp [Value.oneCell']) (by omega) (by omega) (by simp) ?_
                 intro v8 w8 own8 gr8
                 have hb8 : Below W7.heap.size W7 w8 := ((Below.refl _ W7).alloc (Nat.le_refl _) _).grown gr8 (by simp) (own_base (own_empty W7 W7.heap.size 3 1 (Nat.le_refl _)))
                 clear tok1)
              | (at_builtin
                 refine wpList_append_src rfl (.tmp 119) (.tmp 121) _ rfl W7.heap.size 3 i0 (.int .i64 0) 1 8 Try.underlying32 hi hz0 hz1 hz2 rfl ?q1 v8 (0 + sn) _ rfl (own8.alloc _) (.slice (some ⟨w8.heap.size, 0, none⟩) 1 1) 1 [.int .i64 s] rfl ?q2 ?q3 ?q4 ?q5 ?q6 ?q7 ?_
                 case q1 => omega
                 case q2 => exact src_one w8 (.int .i64 s) 3
                 case q3 => rfl
                 case q4 => simp [Value.oneCell']
                 case q5 => omega
                 case q6 => omega
                 case q7 => have := hb8.size; simp; omega
                 intro v9 w9 own9 gr9
                 obtain ⟨g9, cap9, rfl⟩ := ownsRow_succ own9
                 have hb9 : Below W7.heap.size W7 w9 := (hb8.alloc hb8.size _).grown gr9 (by have := hb8.size; simp; omega) (own_base own8)
                 have L9 := blk_to hb9 L7
                 have z9 := (cell_of_blk (o := 5) L9 rfl)
                 have f9 := (frozen_of_blk (o := 5) L9)))
            simp only [Nat.zero_add] at own9
            have z0 := cell_of_blk (o := 0) L9 rfl
            have z1 := cell_of_blk (o := 1) L9 rfl
            have z2 := cell_of_blk (o := 2) L9 rfl
            have z3 := cell_of_blk (o := 3) L9 rfl
            have z4 := cell_of_blk (o := 4) L9 rfl
            have z5 := cell_of_blk (o := 5) L9 rfl
            have B10 : Below w.heap.size w (w9.setCell ⟨L, 5, none⟩ (.slice (some ⟨g9, 0, none⟩) (sn + 1) cap9)) := (B7.trans (hb9.mono B7.size)).setCell (p := ⟨L, 5, none⟩) hL _
            have key : ∀ (W : World) (n : Nat) (v : Value) (l : List Value), n = (c.shut ++ [s]).length → l = (c.shut ++ [s]).map (Value.int .i64) → W.ownsRow W7.heap.size 3 1 v n l → Ints W v (c.shut ++ [s]) := by
              rintro W _ v _ rfl rfl h
              exact own_ints h (by simp; omega)
            have hcity : Hid (CityV (w9.setCell ⟨L, 5, none⟩ (.slice (some ⟨g9, 0, none⟩) (sn + 1) cap9)) (.agg #[.string nm, .int .i64 o, .int .i64 cu, .slice ra rn rc, .slice fa fn fc, .slice (some ⟨g9, 0, none⟩) (sn + 1) cap9]) (Cal.lessT c s)) := by
              obtain ⟨_, _, _, _, _, _, e, i1, i2, _⟩ := hc.out.to B10
              simp only [Value.agg.injEq, Array.mk.injEq, List.cons.injEq, and_true, Value.string.injEq, Value.int.injEq, true_and] at e
              obtain ⟨-, -, -, rfl, rfl, -⟩ := e
              exact ⟨_, _, _, _, _, _, rfl, i1, i2, key _ _ _ _ (by have := hsnH.out; simp; omega) (by simp) (own_setCell own9 ⟨L, 5, none⟩ _ hLt)⟩
            clear key own9 gr9 own8 gr8 src c0 c1 c2 c3 c4 c5
            by_cases hs : Cal.okDay s
            · have e1 : Cal.dE s = 0 := if_pos hs
              cases hp : Cal.openD c s with
              | true =>
                have e2 : Cal.opB c s = true := by unfold Cal.opB; rw [if_pos hs]; exact hp
                by_cases r1 : a ≤ s
                · by_cases r2 : s ≤ b
                  · have hR := Lib.hid (show Cal.cnt (Cal.lessT c s) a b = T - 1 from by rw [Cal.cnt_less c s a b (by omega), hTH.out, if_pos ⟨hp, r1, r2⟩]; try omega)
                    go_wp2_with fail
                    refine (count_is _ _ _ _ _ _ hcity.out haH.out hbH.out hR.out).mono ?_
                    rintro e w11 ⟨rfl, hb⟩
                    have hfin := B10.trans (hb.mono B10.size)
                    clear hb
                    go_wp2_with fail
                    go_ret
                    exact ⟨by apply ret1b; first | rfl | simp, hfin⟩
                  · have hR := Lib.hid (show Cal.cnt (Cal.lessT c s) a b = T from by rw [Cal.cnt_less c s a b (by omega), hTH.out, if_neg (fun h => r2 h.2.2)]; try omega)
                    go_wp2_with fail
                    refine (count_is _ _ _ _ _ _ hcity.out haH.out hbH.out hR.out).mono ?_
                    rintro e w11 ⟨rfl, hb⟩
                    have hfin := B10.trans (hb.mono B10.size)
                    clear hb
                    go_wp2_with fail
                    go_ret
                    exact ⟨by apply ret1b; first | rfl | simp, hfin⟩
                · have hR := Lib.hid (show Cal.cnt (Cal.lessT c s) a b = T from by rw [Cal.cnt_less c s a b (by omega), hTH.out, if_neg (fun h => r1 h.2.1)]; try omega)
                  go_wp2_with fail
                  refine (count_is _ _ _ _ _ _ hcity.out haH.out hbH.out hR.out).mono ?_
                  rintro e w11 ⟨rfl, hb⟩
                  have hfin := B10.trans (hb.mono B10.size)
                  clear hb
                  go_wp2_with fail
                  go_ret
                  exact ⟨by apply ret1b; first | rfl | simp, hfin⟩
              | false =>
                have e2 : Cal.opB c s = false := by unfold Cal.opB; rw [if_pos hs]; exact hp
                have hR := Lib.hid (show Cal.cnt (Cal.lessT c s) a b = T from by rw [Cal.cnt_less c s a b (by omega), hTH.out, if_neg (fun h => by have := h.1; rw [hp] at this; simp at this)]; try omega)
                go_wp2_with fail
                refine (count_is _ _ _ _ _ _ hcity.out haH.out hbH.out hR.out).mono ?_
                rintro e w11 ⟨rfl, hb⟩
                have hfin := B10.trans (hb.mono B10.size)
                clear hb
                go_wp2_with fail
                go_ret
                exact ⟨by apply ret1b; first | rfl | simp, hfin⟩
            · have e1 : Cal.dE s = 3 := if_neg hs
              have hR := Lib.hid (show Cal.cnt (Cal.lessT c s) a b = T from by rw [Cal.cnt_less c s a b (by omega), hTH.out, if_neg (fun h => hs ⟨by have := h.2.1; omega, by have := h.2.2; omega⟩)]; try omega)
              go_wp2_with fail
              refine (count_is _ _ _ _ _ _ hcity.out haH.out hbH.out hR.out).mono ?_
              rintro e w11 ⟨rfl, hb⟩
              have hfin := B10.trans (hb.mono B10.size)
              clear hb
              go_wp2_with fail
              go_ret
              exact ⟨by apply ret1b; first | rfl | simp, hfin⟩
    · have hbH := Lib.hid hb
      clear hb
      go_wp2_with (first
        | (go_at_call 13; ((with_reducible refine (validR_yes a _ haH.out).mono ?_); rintro e w' ⟨rfl, rfl⟩))
        | (go_at_call 13; ((with_reducible refine (validR_no b _ hbH.out).mono ?_); rintro e w' ⟨rfl, rfl⟩)))
      go_ret
      exact ⟨rfl, B2⟩
  · have haH := Lib.hid ha
    clear ha
    go_wp2_with (go_at_call 13; ((with_reducible refine (validR_no a _ haH.out).mono ?_); rintro e w' ⟨rfl, rfl⟩))
    go_ret
    exact ⟨rfl, B2⟩
end Go.Proofs.Ytgdjedbkiaojhaa
