/- The iterator over the open days of a city: the closure that calendar.days hands back. -/
import Derived.Test.YtgdjedbkiaojhaaCalC
import Derived.Test.YtgdjedbkiaojhaaIter
set_option linter.unusedVariables false
namespace Go.Proofs.Ytgdjedbkiaojhaa
open Go.RowKit Go.Shelf
attribute [local go_sem] Oper.semAt_some

namespace Cal
/-- the open days among the k days from a day on -/
def opens (c : Town) (d : Int) : Nat → List Int
  | 0 => []
  | k + 1 => opens c d k ++ (if openD c (d + k) then [d + k] else [])
theorem opens_len (c : Town) (d : Int) : ∀ k, (opens c d k).length ≤ k
  | 0 => by simp [opens]
  | k + 1 => by have := opens_len c d k; unfold opens; split <;> simp <;> omega
theorem opens_yes (c : Town) (d : Int) (k : Nat) (h : openD c (d + k) = true) : opens c d (k + 1) = opens c d k ++ [d + k] := by simp [opens, h]
theorem opens_no (c : Town) (d : Int) (k : Nat) (h : openD c (d + k) = false) : opens c d (k + 1) = opens c d k := by simp [opens, h]
end Cal

/-- behind the iterator: all days have come; or the body has said 'no more' at an open day -/
def DaysPost (c : Town) (from_ : Int) (len : Nat) (J Jx : List Int → World → Prop) (e : Ending) (W' : World) : Prop :=
  (∃ v, e = .returned v) ∧
      ((∃ ys, ys = Cal.opens c from_ len ∧ J ys W') ∨ (∃ pre, (∃ k : Nat, k < len ∧ Cal.openD c (from_ + k) = true ∧ pre = Cal.opens c from_ k ++ [from_ + k]) ∧ Jx pre W'))
set_option maxRecDepth 100000 in
set_option maxHeartbeats 2000000 in
theorem days1_in (n : Nat) (hn : 1 ≤ n) (l Bf Bt Bc : Nat) (c : Town) (cv : Array Value) (from_ to_ : Int) (h0 : 0 ≤ from_) (h9 : to_ ≤ 100000) (len : Nat) (hlen : (len : Int) = to_ + 1 - from_ ∨ (len = 0 ∧ to_ < from_)) (hcs : cv.size = 6)
    (w0 : World) (hcv : CityV w0 (.agg cv) c) (J Jx : List Int → World → Prop) (W : World)
    (hJ : AbidesFrom W.heap.size J)
    (hY : ∀ pre x W1, J pre W1 → pre.length < len → YieldAt Fence.wide (n - 1) Try.prog l #[.int .i64 x] W1 fun e W' =>
      (e = .returned (.bool true) ∧ J (pre ++ [x]) W' ∧ KpBox w0.heap.size [Bf, Bt, Bc] W1 W') ∨ (e = .returned (.bool false) ∧ Jx (pre ++ [x]) W'))
    (hB : Below w0.heap.size w0 W)
    (hf : W.heap[Bf]? = some (.cells #[.int .i64 from_] 3)) (ht : W.heap[Bt]? = some (.cells #[.int .i64 to_] 3)) (hc : W.heap[Bc]? = some (.cells cv 34))
    (hJ0 : J [] W) :
    CallsIn Fence.wide n Try.prog 39 #[.func (.yield l) #[] #[], .pointer (some ⟨Bf, 0, none⟩), .pointer (some ⟨Bt, 0, none⟩), .pointer (some ⟨Bc, 0, none⟩)] W (DaysPost c from_ len J Jx) := by
  have hcv' := hcv
  obtain ⟨nm, o, cu, r, f, s, e6, i1, i2, i3⟩ := hcv'
  obtain ⟨ra, rn, rc, rfl⟩ := i1.slice
  obtain ⟨fa, fn, fc, rfl⟩ := i2.slice
  obtain ⟨sa, sn, sc, rfl⟩ := i3.slice
  clear i1 i2 i3
  simp only [Value.agg.injEq] at e6
  subst e6
  refine callsIn_of_wp Try.func39 rfl trivial ?_ rfl
  simp only [Try.ntmps39, List.size_toArray, List.length_cons, List.length_nil, Nat.reduceAdd, Nat.reduceSub, Array.replicate_succ, Array.replicate_zero, List.push_toArray, List.append_toArray, List.nil_append, List.cons_append]
  have cf := cell_of_blk (o := 0) hf rfl
  gi_wp2
  gi_loopw [5] (fun i wr => ∃ k : Nat, k ≤ len ∧ i = .int .i64 (from_ + k) ∧ J (Cal.opens c from_ k) wr ∧ Below w0.heap.size w0 wr ∧ wr.heap[Bt]? = some (.cells #[.int .i64 to_] 3) ∧
      wr.heap[Bc]? = some (.cells #[.string nm, .int .i64 o, .int .i64 cu, .slice ra rn rc, .slice fa fn fc, .slice sa sn sc] 34) ∧ W.heap.size ≤ wr.heap.size)
    (fun i _ => (to_ + 1 - intOf i).toNat)
  case atStart => exact ⟨0, Nat.zero_le _, by simp, hJ0, hB, ht, hc, Nat.le_refl _⟩
  case round =>
    obtain ⟨k, hk, rfl, hJs, hBr, htr, hcr, hsz⟩ := hrel
    have cB := hcv.to hBr
    have ct := cell_of_blk (o := 0) htr rfl
    have c0 := cell_of_blk (o := 0) hcr rfl
    have c1 := cell_of_blk (o := 1) hcr rfl
    have c2 := cell_of_blk (o := 2) hcr rfl
    have c3 := cell_of_blk (o := 3) hcr rfl
    have c4 := cell_of_blk (o := 4) hcr rfl
    have c5 := cell_of_blk (o := 5) hcr rfl
    have hsB := (World.block_lt_of_cell? wr _ ct)
    have hsC := (World.block_lt_of_cell? wr _ c0)
    by_cases hlt : from_ + k ≤ to_
    · cases hp : Cal.openD c (from_ + k) with
      | false =>
        have HP := Lib.hid hp
        clear hp
        gi_wp2_with fail
        refine ⟨trivial, ?_⟩
        refine (callsIn_wide.2 (open_is _ c _ _ _ cB (by omega) (by omega) HP.out)).mono ?_
        rintro e w1 ⟨rfl, hb⟩
        gi_wp2_with fail
        refine ⟨fun _ h => (by cases h), ?_⟩
        gi_wp2_with fail
        have hb1 := hb.block Bt hsB
        have hb2 := hb.block Bc hsC
        go_roundw
        case rel => exact ⟨k + 1, by omega, by congr 1; omega, by rw [Cal.opens_no c from_ k HP.out]; exact hJ _ wr w1 none hJs (grown_of_below hb none) (fun r e => by cases e), hBr.trans (hb.mono hBr.size), hb1.trans htr, hb2.trans hcr, Nat.le_trans hsz hb.size⟩
        case measure => simp [intOf]; omega
      | true =>
        have HP := Lib.hid hp
        clear hp
        gi_wp2_with fail
        refine ⟨trivial, ?_⟩
        refine (callsIn_wide.2 (open_is _ c _ _ _ cB (by omega) (by omega) HP.out)).mono ?_
        rintro e w1 ⟨rfl, hb⟩
        have hb1 := hb.block Bt hsB
        have hb2 := hb.block Bc hsC
        have hl := Cal.opens_len c from_ k
        obtain ⟨fn', tmps, assign, body, hy, hR⟩ := hY _ (from_ + k) w1 (hJ _ wr w1 none hJs (grown_of_below hb none) (fun r e => by cases e)) (by omega)
        gi_wp2
        refine hR.mono ?_
        rintro e W3 (⟨rfl, hJ3, hk3⟩ | ⟨rfl, hJx3⟩)
        · gi_wp2
          go_roundw
          case rel => exact ⟨k + 1, by omega, by congr 1; omega, by rw [Cal.opens_yes c from_ k HP.out]; exact hJ3, (hBr.trans (hb.mono hBr.size)).trans hk3.1, (hk3.2 Bt (by simp)).trans (hb1.trans htr), (hk3.2 Bc (by simp)).trans (hb2.trans hcr), Nat.le_trans hsz (Nat.le_trans hb.size hk3.1.size)⟩
          case measure => simp [intOf]; omega
        · gi_wp2
          refine bodyPost_ret (results_none rfl _ _ _) rfl ?_
          exact ⟨⟨_, rfl⟩, .inr ⟨_, ⟨k, by omega, HP.out, rfl⟩, hJx3⟩⟩
    · obtain rfl : k = len := by omega
      gi_wp2
      go_end0
      exact ⟨⟨_, rfl⟩, .inl ⟨_, rfl, hJs⟩⟩
end Go.Proofs.Ytgdjedbkiaojhaa
