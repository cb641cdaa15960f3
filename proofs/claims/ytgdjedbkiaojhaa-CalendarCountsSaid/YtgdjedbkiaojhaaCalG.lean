/- The walk of calendar.Count. -/
import Derived.Test.YtgdjedbkiaojhaaCalF
set_option linter.unusedVariables false
namespace Go.Proofs.Ytgdjedbkiaojhaa
open Go.RowKit Go.Shelf
attribute [local go_sem] Oper.semAt_some

namespace Cal
/-- how many open days from a day to another -/
def cnt (c : Town) (a b : Int) : Int := (opens c a (b + 1 - a).toNat).length
def cntV (c : Town) (a b : Int) : Int := if okDay a ∧ okDay b then cnt c a b else 0
def cntE (a b : Int) : Int := if okDay a ∧ okDay b then 0 else 3
end Cal

set_option maxRecDepth 100000 in
set_option maxHeartbeats 2000000 in
theorem count_ok (cv : Array Value) (c : Town) (a b : Int) (w : World) (hcv : CityV w (.agg cv) c) (h1 : 0 ≤ a) (h2 : a ≤ 100000) (h3 : 0 ≤ b) (h4 : b ≤ 100000) :
    Calls Try.prog 26 #[.agg cv, .int .i64 a, .int .i64 b] w (NextPost (Cal.cnt c a b) 0 w) := by
  have hcvH := Lib.hid hcv
  obtain ⟨nm, o, cu, r, f, s, e6, i1, i2, i3⟩ := hcv
  obtain ⟨ra, rn, rc, rfl⟩ := i1.slice
  obtain ⟨fa, fn, fc, rfl⟩ := i2.slice
  obtain ⟨sa, sn, sc, rfl⟩ := i3.slice
  clear i1 i2 i3
  simp only [Value.agg.injEq] at e6
  subst e6
  have hl : (((b + 1 - a).toNat : Nat) : Int) = b + 1 - a ∨ ((b + 1 - a).toNat = 0 ∧ b < a) := by omega
  have hl2 : (b + 1 - a).toNat ≤ 100001 := by omega
  have hX := Lib.hid (show Cal.cnt c a b = ((Cal.opens c a (b + 1 - a).toNat).length : Int) from rfl)
  generalize (b + 1 - a).toNat = L at *
  generalize Cal.cnt c a b = X at *
  have hlH := Lib.hid hl
  clear hl
  refine (callsIn_wide (n := 3)).1 ?_
  refine callsIn_of_wp_marks Try.func26 rfl trivial ?_ rfl
  simp only [Try.ntmps26, List.size_toArray, List.length_cons, List.length_nil, Nat.reduceAdd, Nat.reduceSub, Array.replicate_succ, Array.replicate_zero, List.push_toArray, List.append_toArray, List.nil_append, List.cons_append]
  gi_wp2_with (first
    | (refine ⟨trivial, ?_⟩; gi_at_call 30; ((with_reducible refine (callsIn_wide.2 (valid_yes _ _ h1 h2)).mono ?_); rintro e w' ⟨rfl, rfl⟩))
    | (refine ⟨trivial, ?_⟩; gi_at_call 30; ((with_reducible refine (callsIn_wide.2 (valid_yes _ _ h3 h4)).mono ?_); rintro e w' ⟨rfl, rfl⟩)))
  refine ⟨trivial, ?_⟩
  refine (callsIn_wide.2 (days_calls _ c _ _ _ ?hci)).mono ?_
  case hci => exact hcvH.out.to (((Below.refl _ _).alloc (Nat.le_refl _) _).alloc (by simp) _)
  rintro e w' ⟨rfl, rfl⟩
  gi_wp2_with fail
  generalize hW5 : ((((w.alloc (.cells #[.string nm, .int .i64 o, .int .i64 cu, .slice ra rn rc, .slice fa fn fc, .slice sa sn sc] 34)).alloc (.cells #[.int .i64 0] 3)).alloc (.cells #[.string nm, .int .i64 o, .int .i64 cu, .slice ra rn rc, .slice fa fn fc, .slice sa sn sc] 34)).alloc (.cells #[.int .i64 a] 3)).alloc (.cells #[.int .i64 b] 3) = W5
  obtain ⟨z5, -, r1, x3, x4, x5, hB5⟩ := alloc5 _ _ _ _ _ _ _ hW5
  clear hW5
  have k1 := (⟨cell_of_blk (o := 0) r1 rfl, frozen_of_blk r1⟩ : W5.cell? ⟨w.heap.size + 1, 0, none⟩ = some (.int .i64 0) ∧ W5.frozen? ⟨w.heap.size + 1, 0, none⟩ = false)
  clear r1
  refine wpIn_rangeFunc_ownF rfl (by omega) (gf := 39) (lb := #[.pointer (some ⟨w.heap.size + 1 + 1 + 1, 0, none⟩), .pointer (some ⟨w.heap.size + 1 + 1 + 2, 0, none⟩), .pointer (some ⟨w.heap.size + 1 + 1, 0, none⟩)]) rfl trivial (enters_of Try.func39 (by kernel_rfl) rfl)
    (days_stops 2 (by omega) _ _ _ c _ a b h1 h4 L hlH.out rfl w hcvH.out W5 hB5 x4 x5 x3) (fun h k => KpBox.t h k) (KpBox.b hB5.size (by simp; omega)) (Below.refl _ _) (fun _ => rfl)
    (fun pre W => (W.cell? ⟨w.heap.size + 1, 0, none⟩ = some (.int .i64 pre.length) ∧ W.frozen? ⟨w.heap.size + 1, 0, none⟩ = false) ∧ Below w.heap.size w W)
    (fun _ _ _ => False)
    (OwnFrom.and (Own.from (fun s A B row hs hg hr => ⟨(one_kept hs hg hr).1, (one_kept hs hg hr).2⟩) _) (ownFrom_below (Nat.le_refl _) (by omega)))
    (fun _ _ _ _ _ hs _ _ => hs)
    ⟨k1, hB5⟩
    (fun x => { tmps := #[.agg #[.string nm, .int .i64 o, .int .i64 cu, .slice ra rn rc, .slice fa fn fc, .slice sa sn sc], .int .i64 a, .int .i64 b, .pointer (some ⟨w.heap.size, 0, none⟩), undef, undef, .int .i64 0, .int .i64 0, .pointer (some ⟨w.heap.size + 1, 0, none⟩), .int .i64 a, .bool true, .bool false, .bool false, .int .i64 b, .bool true, .bool false, .bool false,
      .agg #[.string nm, .int .i64 o, .int .i64 cu, .slice ra rn rc, .slice fa fn fc, .slice sa sn sc], .int .i64 a, .int .i64 b, .func (.func 39) #[] #[.pointer (some ⟨w.heap.size + 1 + 1 + 1, 0, none⟩), .pointer (some ⟨w.heap.size + 1 + 1 + 2, 0, none⟩), .pointer (some ⟨w.heap.size + 1 + 1, 0, none⟩)], .int .i64 x, undef, undef, undef], defers := [] }) ?assign ?body ?done ?stop
  case assign =>
    intro l x W K hK
    gi_wp2
    simpa using hK
  case body =>
    rintro l pre x W ⟨⟨c1, f1⟩, hB⟩ hlen
    have hp : (pre.length : Int) ≤ 100001 := by omega
    have hlH2 := Lib.hid hlen
    clear hlen
    gi_wp2
    refine ⟨KeepsOthers.setCell _ _ _, ⟨(Below.refl w.heap.size W).setCell (p := ⟨w.heap.size + 1, 0, none⟩) (by simp) _, fun b hb => Below.heap_setCell _ _ _ _ ?_⟩, ⟨?_, by rw [World.frozen?_setCell]; exact f1⟩, hB.setCell (p := ⟨w.heap.size + 1, 0, none⟩) (by simp) _⟩
    · rintro rfl; simp at hb
    · rw [World.cell?_setCell_same' _ _ _ (by rw [c1]; rfl)]; simp
  case done =>
    rintro D ys W hD hys ⟨⟨c1, f1⟩, hB⟩ hK
    have hX2 : Hid ((ys.length : Int) = X) := by have := hX.out; rw [hys]; exact this.symm
    gi_wp2
    refine ⟨by simp, .inl ⟨_, _, rfl, run_takeDeferred hK, ?_⟩⟩
    refine ⟨.tuple #[.int .i64 (ys.length : Int), .int .i64 0], ?_, by rw [hX2.out], hB.trans (belowK_b (w := w) (Nat.le_refl _) _ D _ _ (by omega) hK rfl rfl)⟩
    simp [results, Try.f26, hys]
  case stop =>
    rintro D j pre W hD _ h _
    exact h.elim

theorem count_no (cv : Array Value) (c : Town) (a b : Int) (w : World) (hcv : CityV w (.agg cv) c) (h : ¬ (Cal.okDay a ∧ Cal.okDay b)) :
    Calls Try.prog 26 #[.agg cv, .int .i64 a, .int .i64 b] w (NextPost 0 3 w) := by
  obtain ⟨nm, o, cu, r, f, s, e6, i1, i2, i3⟩ := hcv
  obtain ⟨ra, rn, rc, rfl⟩ := i1.slice
  obtain ⟨fa, fn, fc, rfl⟩ := i2.slice
  obtain ⟨sa, sn, sc, rfl⟩ := i3.slice
  clear i1 i2 i3
  simp only [Value.agg.injEq] at e6
  subst e6
  by_cases ha : Cal.okDay a
  · have h1 : b < 0 ∨ 100000 < b := by
      apply Classical.byContradiction; intro hb; exact h ⟨ha, by unfold Cal.okDay; omega⟩
    have h1 := Lib.hid h1
    have ha := Lib.hid ha
    clear h
    go_enter Try.func26, Try.ntmps26
    go_wp2_with fail
    refine (valid_yes _ _ ha.out.1 ha.out.2).mono ?_
    rintro e w' ⟨rfl, rfl⟩
    go_wp2_with fail
    refine (valid_no _ _ h1.out).mono ?_
    rintro e w' ⟨rfl, rfl⟩
    go_wp2_with fail
    go_ret2
    exact ⟨rfl, (Below.refl _ _).alloc (Nat.le_refl _) _⟩
  · have h1 : a < 0 ∨ 100000 < a := by unfold Cal.okDay at ha; omega
    have h1 := Lib.hid h1
    clear h ha
    go_enter Try.func26, Try.ntmps26
    go_wp2_with fail
    refine (valid_no _ _ h1.out).mono ?_
    rintro e w' ⟨rfl, rfl⟩
    go_wp2_with fail
    go_ret2
    exact ⟨rfl, (Below.refl _ _).alloc (Nat.le_refl _) _⟩

theorem count_calls (cv : Array Value) (c : Town) (a b : Int) (w : World) (hcv : CityV w (.agg cv) c) :
    Calls Try.prog 26 #[.agg cv, .int .i64 a, .int .i64 b] w (NextPost (Cal.cntV c a b) (Cal.cntE a b) w) := by
  by_cases h : Cal.okDay a ∧ Cal.okDay b
  · unfold Cal.cntV Cal.cntE; rw [if_pos h, if_pos h]; exact count_ok cv c a b w hcv h.1.1 h.1.2 h.2.1 h.2.2
  · unfold Cal.cntV Cal.cntE; rw [if_neg h, if_neg h]; exact count_no cv c a b w hcv h
end Go.Proofs.Ytgdjedbkiaojhaa
