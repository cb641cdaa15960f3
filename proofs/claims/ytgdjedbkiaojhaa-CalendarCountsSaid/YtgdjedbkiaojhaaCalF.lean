/- The walks of calendar.Next (every day), calendar.Open and calendar.Plus. -/
import Derived.Test.YtgdjedbkiaojhaaCalE
set_option linter.unusedVariables false
namespace Go.Proofs.Ytgdjedbkiaojhaa
open Go.RowKit

namespace Cal
/-- the next open day of whatever number -/
def nx1 (c : Town) (d : Int) : Option Int := if okDay d then nxt c d else none
/-- the n-th open day after a day -/
def plus (c : Town) : Nat → Int → Option Int
  | 0, d => some d
  | n + 1, d => match nx1 c (d + 1) with
    | none => none
    | some x => plus c n x
def plusAll (c : Town) (d n : Int) : Option Int := if okDay d ∧ 0 ≤ n ∧ n ≤ 20000 then plus c n.toNat d else none
theorem opens_mem (c : Town) (d : Int) : ∀ (k : Nat) (x : Int), x ∈ opens c d k ↔ (d ≤ x ∧ x < d + k ∧ openD c x = true)
  | 0, x => by simp [opens]; omega
  | k + 1, x => by
    rw [show opens c d (k + 1) = opens c d k ++ (if openD c (d + k) then [d + k] else []) from rfl, List.mem_append, opens_mem c d k x]
    by_cases hx : x = d + k
    · subst hx
      cases openD c (d + k) <;> simp <;> omega
    · have : x ∉ (if openD c (d + k) then [d + k] else []) := by split <;> simp [hx]
      simp only [this, or_false]
      constructor
      · rintro ⟨a, b, e⟩; exact ⟨a, by omega, e⟩
      · rintro ⟨a, b, e⟩; exact ⟨a, by omega, e⟩
theorem nx1_some {c : Town} {d x : Int} (h : nx1 c d = some x) : 0 ≤ d ∧ d ≤ x ∧ x ≤ 100000 ∧ openD c x = true := by
  unfold nx1 at h
  split at h
  · rename_i hd
    have hm : x ∈ opens c d (nlen d) := List.mem_of_mem_head? h
    obtain ⟨a, b, e⟩ := (opens_mem c d _ x).1 hm
    have : (nlen d : Int) = min (d + 400) 100000 + 1 - d := by unfold nlen; obtain ⟨_, _⟩ := hd; omega
    exact ⟨hd.1, a, by omega, e⟩
  · simp at h
theorem got_some (x : Int) : got (some x) = x := rfl
theorem gotE_some (x : Int) : gotE (some x) = 0 := rfl
theorem got_none : got none = 0 := rfl
theorem gotE_none : gotE none = 3 := rfl
end Cal

theorem next_calls (cv : Array Value) (c : Town) (d : Int) (w : World) (hcv : CityV w (.agg cv) c) :
    Calls Try.prog 22 #[.agg cv, .int .i64 d] w (NextPost (Cal.got (Cal.nx1 c d)) (Cal.gotE (Cal.nx1 c d)) w) := by
  by_cases h : Cal.okDay d
  · have := next_ok cv c d w hcv h.1 h.2
    unfold Cal.nx1; rw [if_pos h]; exact this
  · unfold Cal.nx1; rw [if_neg h]
    have h1 : d < 0 ∨ 100000 < d := by unfold Cal.okDay at h; omega
    have h1 := Lib.hid h1
    clear h
    obtain ⟨nm, o, cu, r, f, s, e6, i1, i2, i3⟩ := hcv
    obtain ⟨ra, rn, rc, rfl⟩ := i1.slice
    obtain ⟨fa, fn, fc, rfl⟩ := i2.slice
    obtain ⟨sa, sn, sc, rfl⟩ := i3.slice
    clear i1 i2 i3
    simp only [Value.agg.injEq] at e6
    subst e6
    go_enter Try.func22, Try.ntmps22
    go_wp2_with (go_at_call 30; refine (valid_no _ _ h1.out).mono ?_; rintro e w' ⟨rfl, rfl⟩)
    refine bodyPost_ret (v := .tuple #[.int .i64 0, .int .i64 3]) (by simp [results, Try.f22, go_sem]) rfl ⟨rfl, ?_⟩
    exact (((Below.refl _ _).alloc (Nat.le_refl _) _).alloc (by simp) _).alloc (by simp; omega) _

theorem openC_ok (cv : Array Value) (c : Town) (d : Int) (w : World) (hcv : CityV w (.agg cv) c) (h1 : 0 ≤ d) (h2 : d ≤ 100000) :
    Calls Try.prog 20 #[.agg cv, .int .i64 d] w fun e w' => e = .returned (.tuple #[.bool (Cal.openD c d), .int .i64 0]) ∧ Below w.heap.size w w' := by
  have hcvH := Lib.hid hcv
  obtain ⟨nm, o, cu, r, f, s, e6, i1, i2, i3⟩ := hcv
  obtain ⟨ra, rn, rc, rfl⟩ := i1.slice
  obtain ⟨fa, fn, fc, rfl⟩ := i2.slice
  obtain ⟨sa, sn, sc, rfl⟩ := i3.slice
  clear i1 i2 i3
  simp only [Value.agg.injEq] at e6
  subst e6
  have W1 : ∀ t, Below w.heap.size w (w.alloc t) := fun t => (Below.refl _ _).alloc (Nat.le_refl _) _
  have W1 := Lib.hid W1
  go_enter Try.func20, Try.ntmps20
  go_wp2_with (first
    | (go_at_call 30; refine (valid_yes _ _ h1 h2).mono ?_; rintro e w' ⟨rfl, rfl⟩)
    | (go_at_call 34; refine (open_calls _ c _ _ (hcvH.out.to (W1.out _)) h1 h2).mono ?_; rintro e w' ⟨rfl, hb⟩))
  go_ret2
  exact ⟨rfl, (W1.out _).trans (hb.mono (by simp))⟩

theorem openC_no (cv : Array Value) (c : Town) (d : Int) (w : World) (hcv : CityV w (.agg cv) c) (h : ¬ Cal.okDay d) :
    Calls Try.prog 20 #[.agg cv, .int .i64 d] w fun e w' => e = .returned (.tuple #[.bool false, .int .i64 3]) ∧ Below w.heap.size w w' := by
  have h1 : d < 0 ∨ 100000 < d := by unfold Cal.okDay at h; omega
  have h1 := Lib.hid h1
  clear h
  obtain ⟨nm, o, cu, r, f, s, e6, i1, i2, i3⟩ := hcv
  obtain ⟨ra, rn, rc, rfl⟩ := i1.slice
  obtain ⟨fa, fn, fc, rfl⟩ := i2.slice
  obtain ⟨sa, sn, sc, rfl⟩ := i3.slice
  clear i1 i2 i3
  simp only [Value.agg.injEq] at e6
  subst e6
  go_enter Try.func20, Try.ntmps20
  go_wp2_with (go_at_call 30; refine (valid_no _ _ h1.out).mono ?_; rintro e w' ⟨rfl, rfl⟩)
  go_ret2
  exact ⟨rfl, (Below.refl _ _).alloc (Nat.le_refl _) _⟩

set_option maxRecDepth 100000 in
theorem plus_ok (cv : Array Value) (c : Town) (d0 n : Int) (w : World) (hcv : CityV w (.agg cv) c) (h1 : 0 ≤ d0) (h2 : d0 ≤ 100000) (h3 : 0 ≤ n) (h4 : n ≤ 20000) :
    Calls Try.prog 24 #[.agg cv, .int .i64 d0, .int .i64 n] w (NextPost (Cal.got (Cal.plus c n.toNat d0)) (Cal.gotE (Cal.plus c n.toNat d0)) w) := by
  have hcvH := Lib.hid hcv
  obtain ⟨nm, o, cu, r, f, s, e6, i1, i2, i3⟩ := hcv
  obtain ⟨ra, rn, rc, rfl⟩ := i1.slice
  obtain ⟨fa, fn, fc, rfl⟩ := i2.slice
  obtain ⟨sa, sn, sc, rfl⟩ := i3.slice
  clear i1 i2 i3
  simp only [Value.agg.injEq] at e6
  subst e6
  obtain ⟨N, rfl⟩ := Int.eq_ofNat_of_zero_le h3
  rw [Int.toNat_natCast]
  obtain ⟨X, hX⟩ : ∃ X, Cal.plus c N d0 = X := ⟨_, rfl⟩
  rw [hX]
  have HX := Lib.hid hX
  clear hX
  go_enter Try.func24, Try.ntmps24
  go_wp2_with (go_at_call 30; refine (valid_yes _ _ h1 h2).mono ?_; rintro e w' ⟨rfl, rfl⟩)
  go_loopw [1, 6, 7, 8, 9, 22] (fun dv a b x y kv wr => ∃ (k : Nat) (d : Int), k ≤ N ∧ dv = .int .i64 d ∧ kv = .int .i64 k ∧ 0 ≤ d ∧ d ≤ 100000 ∧ Cal.plus c (N - k) d = X ∧ Below w.heap.size w wr ∧
      wr.heap[w.heap.size]? = some (.cells #[.string nm, .int .i64 o, .int .i64 cu, .slice ra rn rc, .slice fa fn fc, .slice sa sn sc] 34)) (fun _ _ _ _ _ k _ => N - (intOf k).toNat)
  case atStart => exact ⟨0, d0, Nat.zero_le _, rfl, rfl, h1, h2, HX.out, (Below.refl _ _).alloc (Nat.le_refl _) _, World.alloc_heap_new _ _⟩
  case round =>
    obtain ⟨k, d, hk, rfl, rfl, d1, d2, hp, hB, hcr⟩ := hrel
    have HP := Lib.hid hp
    clear hp
    have cB := Lib.hid (hcvH.out.to hB)
    have c0 := cell_of_blk (o := 0) hcr rfl
    have c1 := cell_of_blk (o := 1) hcr rfl
    have c2 := cell_of_blk (o := 2) hcr rfl
    have c3 := cell_of_blk (o := 3) hcr rfl
    have c4 := cell_of_blk (o := 4) hcr rfl
    have c5 := cell_of_blk (o := 5) hcr rfl
    have hsB := (World.block_lt_of_cell? wr _ c0)
    by_cases hlt : k < N
    · have hst : Hid (Cal.plus c (N - k) d = (match Cal.nx1 c (d + 1) with | none => none | some x => Cal.plus c (N - (k + 1)) x)) := by
        rw [show N - k = (N - (k + 1)) + 1 from by omega]; rfl
      cases hx : Cal.nx1 c (d + 1) with
      | none =>
        have hr : X = none := by rw [← HP.out, hst.out, hx]
        subst hr
        have HN := Lib.hid hx
        clear hx
        go_wp2_with fail
        refine (next_calls _ c _ _ cB.out).mono ?_
        rw [HN.out, Cal.got_none, Cal.gotE_none]
        rintro e w1 ⟨rfl, hb⟩
        go_wp2_with fail
        go_ret2
        exact ⟨rfl, hB.trans (hb.mono hB.size)⟩
      | some x =>
        obtain ⟨x0, x1, x2, x3⟩ := Cal.nx1_some hx
        have hr : Hid (Cal.plus c (N - (k + 1)) x = X) := by have := hst.out; rw [HP.out, hx] at this; exact this.symm
        have HN := Lib.hid hx
        clear hx x3
        go_wp2_with fail
        refine (next_calls _ c _ _ cB.out).mono ?_
        rw [HN.out, Cal.got_some, Cal.gotE_some]
        rintro e w1 ⟨rfl, hb⟩
        have hb2 := hb.block w.heap.size hsB
        go_wp2_with fail
        go_roundw
        case rel => exact ⟨k + 1, x, by omega, rfl, by go_num, by omega, by omega, hr.out, hB.trans (hb.mono hB.size), hb2.trans hcr⟩
        case measure => simp [intOf]; omega
    · obtain rfl : k = N := by omega
      have hr : X = some d := by rw [← HP.out, Nat.sub_self]; rfl
      subst hr
      go_wp2
      go_ret2
      exact ⟨rfl, hB⟩
end Go.Proofs.Ytgdjedbkiaojhaa
