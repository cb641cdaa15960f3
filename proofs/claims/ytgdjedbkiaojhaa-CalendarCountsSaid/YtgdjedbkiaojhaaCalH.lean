/- The small examples of the laws: they answer true. -/
import Derived.Test.YtgdjedbkiaojhaaCalG
import Derived.Test.YtgdjedbkiaojhaaCalB
set_option linter.unusedVariables false
namespace Go.Proofs.Ytgdjedbkiaojhaa
open Go.RowKit

theorem date59 (w : World) : Calls Try.prog 11 #[.int .i64 59] w fun e w' => e = .returned (.tuple #[.int .i64 2000, .int .i64 2, .int .i64 29, .int .i64 0]) ∧ w = w' := by
  have := date_ok 59 w (by omega) (by omega)
  rwa [show Cal.cvY 59 = 2000 from by decide +kernel, show Cal.cvM 59 = 2 from by decide +kernel, show Cal.cvD 59 = 29 from by decide +kernel] at this
theorem weekday59 (w : World) : Calls Try.prog 12 #[.int .i64 59] w fun e w' => e = .returned (.tuple #[.int .i64 1, .int .i64 0]) ∧ w = w' := by
  have := weekday_ok 59 w (by omega) (by omega)
  rwa [show ((59 : Int) + 5) % 7 = 1 from by decide] at this
theorem add1 (w : World) : Calls Try.prog 14 #[.int .i64 30, .int .i64 1] w fun e w' => e = .returned (.tuple #[.int .i64 59, .int .i64 0]) ∧ w = w' := by
  have := addMonths_calls 30 1 w
  rwa [show Cal.addV 30 1 = 59 from by decide +kernel, show Cal.addE 30 1 = 0 from by decide +kernel] at this
theorem add2 (w : World) : Calls Try.prog 14 #[.int .i64 30, .int .i64 2] w fun e w' => e = .returned (.tuple #[.int .i64 90, .int .i64 0]) ∧ w = w' := by
  have := addMonths_calls 30 2 w
  rwa [show Cal.addV 30 2 = 90 from by decide +kernel, show Cal.addE 30 2 = 0 from by decide +kernel] at this
theorem day29 (w : World) : Calls Try.prog 10 #[.int .i64 2001, .int .i64 2, .int .i64 29] w fun e w' => e = .returned (.tuple #[.int .i64 0, .int .i64 3]) ∧ w = w' := by
  have := day_calls 2001 2 29 w
  rwa [show Cal.dayV 2001 2 29 = 0 from by decide +kernel, show Cal.dayE 2001 2 29 = 3 from by decide +kernel] at this
def town : Town := ⟨[5, 6], [101], []⟩
def shutTown : Town := ⟨[0, 1, 2, 3, 4, 5, 6], [], []⟩
theorem next0 (cv : Array Value) (w : World) (h : CityV w (.agg cv) town) : Calls Try.prog 22 #[.agg cv, .int .i64 0] w (NextPost 2 0 w) := by
  have := next_calls cv town 0 w h
  rwa [show Cal.nx1 town 0 = some 2 from by decide +kernel] at this
theorem plus5 (cv : Array Value) (w : World) (h : CityV w (.agg cv) town) : Calls Try.prog 24 #[.agg cv, .int .i64 0, .int .i64 5] w (NextPost 6 0 w) := by
  have := plus_ok cv town 0 5 w h (by omega) (by omega) (by omega) (by omega)
  rwa [show Cal.plus town (Int.toNat 5) 0 = some 6 from by decide +kernel] at this
theorem count8 (cv : Array Value) (w : World) (h : CityV w (.agg cv) town) : Calls Try.prog 26 #[.agg cv, .int .i64 0, .int .i64 8] w (NextPost 5 0 w) := by
  have := count_calls cv town 0 8 w h
  rwa [show Cal.cntV town 0 8 = 5 from by decide +kernel, show Cal.cntE 0 8 = 0 from by decide +kernel] at this
theorem nextShut (cv : Array Value) (w : World) (h : CityV w (.agg cv) shutTown) : Calls Try.prog 22 #[.agg cv, .int .i64 0] w (NextPost 0 3 w) := by
  have := next_calls cv shutTown 0 w h
  rwa [show Cal.nx1 shutTown 0 = none from by decide +kernel] at this

set_option maxRecDepth 100000 in
theorem small_calls (w : World) : Calls Try.prog 9 #[] w fun e w' => e = .returned (.bool true) ∧ Below w.heap.size w w' := by
  go_enter Try.func9, Try.ntmps9
  go_wp2_with (first
    | (go_at_call 11; refine (date59 _).mono ?_; rintro e w' ⟨rfl, rfl⟩)
    | (go_at_call 12; refine (weekday59 _).mono ?_; rintro e w' ⟨rfl, rfl⟩)
    | (go_at_call 14; ((with_reducible refine (add1 _).mono ?_); rintro e w' ⟨rfl, rfl⟩))
    | (go_at_call 14; ((with_reducible refine (add2 _).mono ?_); rintro e w' ⟨rfl, rfl⟩)))
  generalize hW3 : ((w.alloc (.cells #[.int .i64 5, .int .i64 6] 3)).alloc (.cells #[.int .i64 101] 3)).alloc (.cells #[.string ⟨#[]⟩, .int .i64 0, .int .i64 0, .slice (some ⟨w.heap.size, 0, none⟩) 2 2, .slice (some ⟨w.heap.size + 1, 0, none⟩) 1 1, .slice none 0 0] 34) = W3
  obtain ⟨z3, x1, x2, x3, hB3⟩ := alloc3 _ _ _ _ _ hW3
  clear hW3
  have hT : CityV W3 (.agg #[.string ⟨#[]⟩, .int .i64 0, .int .i64 0, .slice (some ⟨w.heap.size, 0, none⟩) 2 2, .slice (some ⟨w.heap.size + 1, 0, none⟩) 1 1, .slice none 0 0]) town :=
    ⟨_, _, _, _, _, _, rfl, Ints.lit [5, 6] x1 (by simp) 2, Ints.lit [101] x2 (by simp) 1, Ints.nil _ _ _⟩
  refine (next0 _ _ hT).mono ?_
  rintro e w1 ⟨rfl, hb1⟩
  have hT1 := hT.to hb1
  have y1 := blk_to hb1 x3
  clear hT x1 x2
  have c0 := cell_of_blk (o := 0) y1 rfl
  have c1 := cell_of_blk (o := 1) y1 rfl
  have c2 := cell_of_blk (o := 2) y1 rfl
  have c3 := cell_of_blk (o := 3) y1 rfl
  have c4 := cell_of_blk (o := 4) y1 rfl
  have c5 := cell_of_blk (o := 5) y1 rfl
  go_wp2_with fail
  refine (plus5 _ _ hT1).mono ?_
  rintro e w2 ⟨rfl, hb2⟩
  clear c0 c1 c2 c3 c4 c5
  have hT2 := hT1.to hb2
  have y2 := blk_to hb2 y1
  have c0 := cell_of_blk (o := 0) y2 rfl
  have c1 := cell_of_blk (o := 1) y2 rfl
  have c2 := cell_of_blk (o := 2) y2 rfl
  have c3 := cell_of_blk (o := 3) y2 rfl
  have c4 := cell_of_blk (o := 4) y2 rfl
  have c5 := cell_of_blk (o := 5) y2 rfl
  go_wp2_with fail
  refine (count8 _ _ hT2).mono ?_
  rintro e w3 ⟨rfl, hb3⟩
  clear c0 c1 c2 c3 c4 c5 y1 y2 hT1 hT2 x3
  have hB : Below w.heap.size w w3 := ((hB3.trans (hb1.mono hB3.size)).trans (hb2.mono (Nat.le_trans hB3.size hb1.size))).trans (hb3.mono (Nat.le_trans hB3.size (Nat.le_trans hb1.size hb2.size)))
  clear hB3 hb1 hb2 hb3
  go_wp2_with (go_at_call 10; refine (day29 _).mono ?_; rintro e w' ⟨rfl, rfl⟩)
  refine (nextShut _ _ ⟨_, _, _, _, _, _, rfl, Ints.lit [0, 1, 2, 3, 4, 5, 6] (World.alloc_heap_new _ _) (by simp) 7, Ints.nil _ _ _, Ints.nil _ _ _⟩).mono ?_
  rintro e w5 ⟨rfl, hb5⟩
  go_wp2_with fail
  go_ret
  exact ⟨rfl, (hB.alloc hB.size _).trans (hb5.mono (by simp; have := hB.size; omega))⟩
end Go.Proofs.Ytgdjedbkiaojhaa
