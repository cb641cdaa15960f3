/- Each operation of the small machine is the model's (second part: memory of the call's own). -/
import Derived.Test.YtdjfaepokfdihaaVmOpsA
import Derived.Laws.AppendOwnNone
set_option linter.unusedVariables false
namespace Go.Proofs.Ytdjfaepokfdihaa
namespace Vm
open Go.RowKit

theorem setAt_get {α : Type} : ∀ (l : List α) (o : Nat) (xs : List α) (j : Nat), o + xs.length ≤ l.length → (setAt l o xs)[j]? = if o ≤ j ∧ j < o + xs.length then xs[j - o]? else l[j]?
  | l, o, [], j, _ => by
    have : setAt l o ([] : List α) = l := by cases l <;> cases o <;> rfl
    rw [this, if_neg]; simp
  | [], o, x :: r, j, h => by simp at h
  | y :: l, 0, x :: r, 0, h => by simp [setAt]
  | y :: l, 0, x :: r, j + 1, h => by
    simp only [setAt, List.getElem?_cons_succ]
    rw [setAt_get l 0 r j (by simp at h ⊢; omega)]
    simp only [Nat.zero_le, Nat.zero_add, true_and, List.length_cons, Nat.add_lt_add_iff_right, Nat.sub_zero, List.getElem?_cons_succ]
  | y :: l, n + 1, x :: r, 0, h => by simp [setAt]
  | y :: l, n + 1, x :: r, j + 1, h => by
    simp only [setAt, List.getElem?_cons_succ]
    rw [setAt_get l n (x :: r) j (by simp at h ⊢; omega)]
    have e : j + 1 - (n + 1) = j - n := by omega
    rw [e]
    by_cases q : n ≤ j ∧ j < n + (x :: r).length
    · rw [if_pos q, if_pos (by omega)]
    · rw [if_neg q, if_neg (by omega)]
theorem setAt_len {α : Type} : ∀ (l : List α) (o : Nat) (xs : List α), (setAt l o xs).length = l.length
  | l, o, [] => by cases l <;> cases o <;> rfl
  | [], o, x :: r => by cases o <;> rfl
  | y :: l, 0, x :: r => by simp [setAt, setAt_len l 0 r]
  | y :: l, n + 1, x :: r => by simp [setAt, setAt_len l n (x :: r)]
theorem splice_get {α : Type} (l xs : List α) (o j : Nat) (h : o + xs.length ≤ l.length) : (l.take o ++ xs ++ l.drop (o + xs.length))[j]? = if o ≤ j ∧ j < o + xs.length then xs[j - o]? else l[j]? := by
  have hl : (l.take o).length = o := by simp; omega
  by_cases h1 : j < o
  · rw [List.append_assoc, List.getElem?_append_left (by omega), if_neg (by omega), List.getElem?_take, if_pos h1]
  · by_cases h2 : j < o + xs.length
    · rw [if_pos ⟨by omega, h2⟩, List.append_assoc, List.getElem?_append_right (by omega), List.getElem?_append_left (by omega), hl]
    · rw [if_neg (by omega), List.getElem?_append_right (by simp; omega), List.getElem?_drop]
      congr 1
      simp; omega

section
variable {h : Hp} {hd : Nat → Value} {bl : Nat → Option Blk} {v : Value}
theorem cells_ok {x : V} (r : R3 h hd bl v x) (hx : x.known = true) : v.cells.size = x.cells.length ∧ ∀ j y, x.cells[j]? = some y → R1 h hd bl (v.cells.getD j undef) y ∧ (v.cells.getD j undef).oneCell' = true := by
  have key : ∀ y : V, R1 h hd bl v y → y ≠ .any → y.cells = [y] → v.cells.size = y.cells.length ∧ ∀ j z, y.cells[j]? = some z → R1 h hd bl (v.cells.getD j undef) z ∧ (v.cells.getD j undef).oneCell' = true := by
    intro y r1 hne hc
    have ho := r1.one hne
    have hv : v.cells = #[v] := by cases v <;> first | rfl | simp [Value.oneCell'] at ho
    rw [hc, hv]
    refine ⟨rfl, fun j z hz => ?_⟩
    cases j with
    | zero => simp at hz; subst hz; exact ⟨r1, ho⟩
    | succ j => simp at hz
  cases x with
  | any => simp [V.known] at hx
  | tup vs => simp [V.known] at hx
  | agg cs => obtain ⟨arr, rfl, h1, h2⟩ := inv_agg r; exact ⟨h1, h2⟩
  | _ => exact key _ r (by simp) rfl
theorem cells_atom {x : V} (hx : x.known = true) : True := trivial
end

section
variable {P : Program} {nt : Nat} {w0 w : World} {h0 h : Hp} {fr : Nat → V} {bl : Nat → Option Blk} {a : Act} {hd : Nat → Value}

theorem grown_setRow (w : World) (g : Nat) (cs : Array Value) : w.grownBy (w.setRow g cs) (some g) :=
  ⟨rfl, rfl, rfl, by simp, fun k _ hk => setRow_other w g k _ (fun e => hk (by rw [e]))⟩

/-- a store into a box -/
theorem storeBox_ok (r : Rl nt w0 h0 fr bl a w h hd) {t : TypeId} {i : TypeInfo} (hi : P.info? t = some i) {xv vv : Value} {id off : Nat} {y : V} (hx : R3 h hd bl xv (.ptr id off)) (hy : R3 h hd bl vv y) {cs : List V} (hb : bl id = some (.box cs))
    (hl : y.cells.length = i.size) (ho : off + i.size ≤ cs.length) (hk : y.known = true) (dst : Option Nat) (hdst : ∀ d, dst = some d → d < nt) (cv : Value) :
    ∃ w' hd', (Instr.storeAt t xv vv).run P w = .ok () w' ∧ Rl nt w0 h0 (updF fr dst .any) (updB bl [(id, some (.box (setAt cs off y.cells)))]) (a.put dst cv) w' h hd' := by
  obtain ⟨_, g, hg, rfl⟩ := inv_ptr hx
  obtain ⟨g', arr, e, q1, q2, q3, q4, q5, q6⟩ := r.blk id _ hb
  rw [hg] at q1
  cases q1
  obtain ⟨c1, c2⟩ := cells_ok hy hk
  have hall : ∀ u ∈ vv.cells.toList, u.oneCell' = true := by
    intro u hu
    obtain ⟨j, hj, rfl⟩ := List.mem_iff_getElem.1 hu
    have hj' : j < vv.cells.size := by simpa using hj
    have := (c2 j (y.cells[j]'(by omega)) (by simp)).2
    simpa [hj'] using this
  have hrun := run_storeCells_at P g off e vv.cells.toList 0 arr w q3 (by simp; omega) hall
  simp only [Nat.add_zero] at hrun
  have hfull : (Instr.storeAt t (.pointer (some ⟨g, off, none⟩)) vv).run P w = .ok () (w.setRow g (arr.toList.take off ++ vv.cells.toList ++ arr.toList.drop (off + vv.cells.toList.length)).toArray) := by
    have hsz : vv.cells.size = i.size := by omega
    simp [Instr.storeAt, Instr.sureAddr, storeVar, run_sizeOf hi, hsz, Result.andThen, hrun]
  have hget : ∀ j, (arr.toList.take off ++ vv.cells.toList ++ arr.toList.drop (off + vv.cells.toList.length))[j]? = if off ≤ j ∧ j < off + vv.cells.toList.length then vv.cells.toList[j - off]? else arr.toList[j]? := fun j => splice_get _ _ _ _ (by simp; omega)
  have hr : ∀ j z, (setAt cs off y.cells)[j]? = some z → R1 h hd bl ((arr.toList.take off ++ vv.cells.toList ++ arr.toList.drop (off + vv.cells.toList.length)).toArray.getD j undef) z ∧ ((arr.toList.take off ++ vv.cells.toList ++ arr.toList.drop (off + vv.cells.toList.length)).toArray.getD j undef).oneCell' = true := by
    intro j z hz
    rw [setAt_get cs off y.cells j (by omega)] at hz
    by_cases hj : off ≤ j ∧ j < off + y.cells.length
    · rw [if_pos hj] at hz
      have e1 : ((arr.toList.take off ++ vv.cells.toList ++ arr.toList.drop (off + vv.cells.toList.length)).toArray.getD j undef) = vv.cells.getD (j - off) undef := by
        simp only [Array.getD_eq_getD_getElem?, List.getElem?_toArray]
        rw [hget j, if_pos (by simp; omega)]
        simp
      rw [e1]; exact c2 _ _ hz
    · rw [if_neg hj] at hz
      have e1 : ((arr.toList.take off ++ vv.cells.toList ++ arr.toList.drop (off + vv.cells.toList.length)).toArray.getD j undef) = arr.getD j undef := by
        simp only [Array.getD_eq_getD_getElem?, List.getElem?_toArray]
        rw [hget j, if_neg (by simp; omega)]
        simp
      rw [e1]; exact q5 _ _ hz
  obtain ⟨hd', h'⟩ := r.setBox (w' := w.setRow g _) dst hdst cv id cs (setAt cs off y.cells) hb g arr (arr.toList.take off ++ vv.cells.toList ++ arr.toList.drop (off + vv.cells.toList.length)).toArray e hg
    (by simp [setAt_len]; omega) hr (setRow_heap w g arr _ e _ q3) (grown_setRow w g _)
  exact ⟨_, hd', hfull, h'⟩
end

/-! ### values that are never written again -/
section
variable {P : Program} {nt : Nat} {w0 w : World} {h0 h : Hp} {fr : Nat → V} {bl : Nat → Option Blk} {a : Act} {hd : Nat → Value}
theorem fz0_ok (x : V) : FzOk bl (fz0 bl x) := by
  intro p hp
  unfold fz0 at hp
  split at hp
  · split at hp
    · rename_i id ver v e s rows hb
      simp at hp
      subst hp
      exact .inl ⟨v, e, s, rows, hb, rfl⟩
    · cases hp
  · cases hp
theorem FzOk.mono1 {l m : List (Nat × Option Blk)} (h1 : FzOk bl l) (h : ∀ p ∈ l, p ∈ m) : ∀ p ∈ l, (∃ v e s rows, bl p.1 = some (.rows v e s rows) ∧ p.2 = some (.froz v rows)) ∨
    (∃ cs ds, bl p.1 = some (.box cs) ∧ p.2 = some (.fbox ds) ∧ mapM' (toD0 bl) cs = some ds ∧ ∀ q ∈ cs.flatMap (fz0 bl), q ∈ m) := fun p hp => by
  rcases h1 p hp with q | ⟨cs, ds, q1, q2, q3, q4⟩
  · exact .inl q
  · exact .inr ⟨cs, ds, q1, q2, q3, fun q hq => h q (q4 q hq)⟩
theorem fz1_ok (x : V) : FzOk bl (fz1 bl x) := by
  cases x with
  | ptr id off =>
    simp only [fz1]
    split
    · rename_i cs hb
      split
      · rename_i ds hm
        intro p hp
        rcases List.mem_cons.1 hp with rfl | hp
        · exact .inr ⟨cs, ds, hb, rfl, hm, fun q hq => List.mem_cons_of_mem _ hq⟩
        · obtain ⟨y, hy, hpy⟩ := List.mem_flatMap.1 hp
          exact (fz0_ok y).mono1 (fun q hq => List.mem_cons_of_mem _ (List.mem_flatMap.2 ⟨y, hy, hq⟩)) p hpy
      · intro p hp; cases hp
    · intro p hp; cases hp
  | _ => simp only [fz1]; exact fz0_ok _
theorem fz2_ok (x : V) : FzOk bl (fz2 bl x) := by
  unfold fz2
  split
  · intro p hp
    obtain ⟨y, hy, hpy⟩ := List.mem_flatMap.1 hp
    exact (fz1_ok y).mono1 (fun q hq => List.mem_flatMap.2 ⟨y, hy, hq⟩) p hpy
  · exact fz1_ok x
theorem FzOk.append {l m : List (Nat × Option Blk)} (h1 : FzOk bl l) (h2 : FzOk bl m) : FzOk bl (l ++ m) := fun p hp => (List.mem_append.1 hp).elim (h1.mono1 (fun q hq => List.mem_append.2 (.inl hq)) p) (h2.mono1 (fun q hq => List.mem_append.2 (.inr hq)) p)
theorem FzOk.flatMap {α : Type} (l : List α) (f : α → V) : FzOk bl (l.flatMap fun x => fz2 bl (f x)) := fun p hp => by
  obtain ⟨y, hy, hpy⟩ := List.mem_flatMap.1 hp
  exact (fz2_ok (f y)).mono1 (fun q hq => List.mem_flatMap.2 ⟨y, hy, hq⟩) p hpy
theorem FzOk.flatMap1 {α : Type} (l : List α) (f : α → V) : FzOk bl (l.flatMap fun x => fz1 bl (f x)) := fun p hp => by
  obtain ⟨y, hy, hpy⟩ := List.mem_flatMap.1 hp
  exact (fz1_ok (f y)).mono1 (fun q hq => List.mem_flatMap.2 ⟨y, hy, hq⟩) p hpy
theorem toD1_ok (r : Rl nt w0 h0 fr bl a w h hd) (wr : List (Nat × Option Blk)) {v : Value} {x : V} {d : D} (hx : R1 h hd bl v x) (e : toD1 bl x = some d) (hw : ∀ p ∈ fz1 bl x, p ∈ wr) :
    Reads (hFz w h hd wr) v d ∧ d.atom = true := by
  cases x with
  | ptr id off =>
    obtain ⟨⟨b, hb, hbx⟩, g, hg, rfl⟩ := hx
    simp only [toD1, hb] at e
    cases b with
    | fbox cs =>
      simp only [Option.some.injEq] at e
      subst e
      have := r.blk id _ hb
      simp only [BR, hg] at this
      exact ⟨Reads.mono (hFz_le r wr) (ptr_off this), rfl⟩
    | box cs =>
      simp only [Option.map_eq_some_iff] at e
      obtain ⟨ds, hm, rfl⟩ := e
      have hf : fz1 bl (.ptr id off) = (id, some (.fbox ds)) :: cs.flatMap (fz0 bl) := by simp only [fz1, hb, hm]
      rw [hf] at hw
      have := fz_box r wr (p := (id, some (.fbox ds))) (hw _ (List.mem_cons_self ..)) hb hm fun q hq => hw q (List.mem_cons_of_mem _ hq)
      simp only [hg] at this
      exact ⟨ptr_off this, rfl⟩
    | _ => cases e
  | d y => exact toD0_ok r wr (x := .d y) hx e hw
  | nil => exact toD0_ok r wr (x := .nil) hx e hw
  | own i n => exact toD0_ok r wr (x := .own i n) hx e hw
  | fn f c => exact toD0_ok r wr (x := .fn f c) hx e hw
  | any => cases e
  | agg cs => cases e
  | tup cs => cases e
  | orow i n j o => cases e
theorem toD2_ok (r : Rl nt w0 h0 fr bl a w h hd) (wr : List (Nat × Option Blk)) {v : Value} {x : V} {d : D} (hx : R2 h hd bl v x) (e : toD2 bl x = some d) (hw : ∀ p ∈ fz2 bl x, p ∈ wr) :
    Reads (hFz w h hd wr) v d := by
  cases x with
  | agg cs =>
    obtain ⟨arr, rfl, h1, h2⟩ := hx
    simp only [toD2] at e
    cases hm : mapM' (toD1 bl) cs with
    | none => simp [hm] at e
    | some ds =>
      simp only [hm, Option.map_some, Option.some.injEq] at e
      subst e
      obtain ⟨m1, m2⟩ := mapM'_some hm
      have key : ∀ (j : Nat) (y : D), ds[j]? = some y → Reads (hFz w h hd wr) (arr.getD j undef) y ∧ (arr.getD j undef).oneCell' = true := by
        intro j y hy
        obtain ⟨z, q1, q2⟩ := mapM'_back hm hy
        refine ⟨(toD1_ok r wr (h2 j z q1).1 q2 fun p hp => hw p ?_).1, (h2 j z q1).2⟩
        exact List.mem_flatMap.2 ⟨z, List.mem_of_getElem? q1, hp⟩
      exact .agg arr ds (by omega) (fun j y hy => (key j y hy).1) (fun j y hy => (key j y hy).2)
  | tup vs => cases e
  | d y => exact (toD1_ok (x := .d y) r wr hx e hw).1
  | nil => exact (toD1_ok (x := .nil) r wr hx e hw).1
  | own i n => exact (toD1_ok (x := .own i n) r wr hx e hw).1
  | fn f c => exact (toD1_ok (x := .fn f c) r wr hx e hw).1
  | any => cases e
  | ptr i o => exact (toD1_ok (x := .ptr i o) r wr hx e hw).1
  | orow i n j o => cases e
theorem toD_ok (r : Rl nt w0 h0 fr bl a w h hd) (wr : List (Nat × Option Blk)) {v : Value} {x : V} {d : D} (hx : R3 h hd bl v x) (e : toD bl x = some d) (hw : ∀ p ∈ (match x with | .tup vs => vs.flatMap (fz2 bl) | x => fz2 bl x), p ∈ wr) :
    Reads (hFz w h hd wr) v d := by
  cases x with
  | tup cs =>
    obtain ⟨arr, rfl, h1, h2⟩ := hx
    simp only [toD] at e
    cases hm : mapM' (toD2 bl) cs with
    | none => simp [hm] at e
    | some ds =>
      simp only [hm, Option.map_some, Option.some.injEq] at e
      subst e
      obtain ⟨m1, m2⟩ := mapM'_some hm
      refine .tup arr ds (by omega) (fun j y hy => ?_) (fun j y hy => ?_)
      · obtain ⟨z, q1, q2⟩ := mapM'_back hm hy
        exact toD2_ok r wr (h2 j z q1) q2 fun p hp => hw p (List.mem_flatMap.2 ⟨z, List.mem_of_getElem? q1, hp⟩)
      · obtain ⟨z, q1, q2⟩ := mapM'_back hm hy
        have hz := h2 j z q1
        have := toD2_ok r (fz2 bl z) hz q2 fun p hp => hp
        cases y with
        | tup us =>
          exfalso
          cases z with
          | agg cs => simp only [toD2] at q2; cases hq : mapM' (toD1 bl) cs <;> simp [hq] at q2
          | d x => exact absurd (toD1_ok (x := .d x) r _ hz q2 fun p hp => hp).2 (by simp [D.atom])
          | nil => exact absurd (toD1_ok (x := .nil) r _ hz q2 fun p hp => hp).2 (by simp [D.atom])
          | own i n => exact absurd (toD1_ok (x := .own i n) r _ hz q2 fun p hp => hp).2 (by simp [D.atom])
          | fn f c => exact absurd (toD1_ok (x := .fn f c) r _ hz q2 fun p hp => hp).2 (by simp [D.atom])
          | any => cases q2
          | tup vs => cases q2
          | ptr i o => exact absurd (toD1_ok (x := .ptr i o) r _ hz q2 fun p hp => hp).2 (by simp [D.atom])
          | orow i n j o => cases q2
        | _ => rfl
  | agg cs => exact toD2_ok (x := .agg cs) r wr hx e hw
  | d y => exact toD2_ok (x := .d y) r wr hx e hw
  | nil => exact toD2_ok (x := .nil) r wr hx e hw
  | own i n => exact toD2_ok (x := .own i n) r wr hx e hw
  | fn f c => exact toD2_ok (x := .fn f c) r wr hx e hw
  | any => cases e
  | ptr i o => exact toD2_ok (x := .ptr i o) r wr hx e hw
  | orow i n j o => cases e
/-- back again -/
theorem toV1_ok {v : Value} {d : D} (r : Reads h v d) (ho : v.oneCell' = true) : R1 h hd bl v (.d d) := by
  refine ⟨?_, r⟩
  cases r <;> first | rfl | simp [Value.oneCell'] at ho
theorem toV2_ok {v : Value} {d : D} (r : Reads h v d) (ht : ∀ vs, d ≠ .tup vs) : R2 h hd bl v (toV2 d) := by
  cases r with
  | agg arr cs hl hr ho =>
    refine ⟨arr, rfl, by simpa using hl, fun j x hx => ?_⟩
    rw [List.getElem?_map, Option.map_eq_some_iff] at hx
    obtain ⟨y, hy, rfl⟩ := hx
    exact ⟨toV1_ok (hr j y hy) (ho j y hy), ho j y hy⟩
  | tup arr vs => exact absurd rfl (ht vs)
  | int k n => exact ⟨rfl, .int k n⟩
  | bool b => exact ⟨rfl, .bool b⟩
  | str s hs => exact ⟨rfl, .str s hs⟩
  | np => exact ⟨rfl, .np⟩
  | fn f arr cs hl hr => exact ⟨rfl, .fn f arr cs hl hr⟩
  | sl0 a c h0 => exact ⟨rfl, .sl0 a c h0⟩
  | sl b off c k n rows cv hn hc hk hm hr ho => exact ⟨rfl, .sl b off c k n rows cv hn hc hk hm hr ho⟩
  | ptr b o off n row cv hn hm hr ho => exact ⟨rfl, .ptr b o off n row cv hn hm hr ho⟩
theorem toV_ok {v : Value} {d : D} (r : Reads h v d) : R3 h hd bl v (toV d) := by
  cases r with
  | tup arr vs hl hr hn =>
    refine ⟨arr, rfl, by simpa using hl, fun j x hx => ?_⟩
    rw [List.getElem?_map, Option.map_eq_some_iff] at hx
    obtain ⟨y, hy, rfl⟩ := hx
    exact toV2_ok (hr j y hy) fun us e => by have := hn j y hy; rw [e] at this; simp [D.noTup] at this
  | agg arr cs hl hr ho => exact toV2_ok (.agg arr cs hl hr ho) (fun vs e => by cases e)
  | int k n => exact ⟨rfl, .int k n⟩
  | bool b => exact ⟨rfl, .bool b⟩
  | str s hs => exact ⟨rfl, .str s hs⟩
  | np => exact ⟨rfl, .np⟩
  | fn f arr cs hl hr => exact ⟨rfl, .fn f arr cs hl hr⟩
  | sl0 a c h0 => exact ⟨rfl, .sl0 a c h0⟩
  | sl b off c k n rows cv hn hc hk hm hr ho => exact ⟨rfl, .sl b off c k n rows cv hn hc hk hm hr ho⟩
  | ptr b o off n row cv hn hm hr ho => exact ⟨rfl, .ptr b o off n row cv hn hm hr ho⟩
theorem flat1_reads {v : Value} {d : D} (r : Reads h v d) (hf : flat1 d = true) (k : Hp) : Reads k v d := by
  cases r with
  | int k n => exact .int k n
  | bool b => exact .bool b
  | str s hs => exact .str s hs
  | _ => simp [flat1] at hf
theorem flat2_reads {v : Value} {d : D} (r : Reads h v d) (hf : flat2 d = true) (k : Hp) : Reads k v d := by
  cases r with
  | agg arr cs hl hr ho => exact .agg arr cs hl (fun j x hx => flat1_reads (hr j x hx) (List.all_eq_true.1 hf x (List.mem_of_getElem? hx)) k) ho
  | int k n => exact .int k n
  | bool b => exact .bool b
  | str s hs => exact .str s hs
  | _ => simp [flat2, flat1] at hf
theorem flat_reads {v : Value} {d : D} (r : Reads h v d) (hf : flat d = true) (k : Hp) : Reads k v d := by
  cases r with
  | tup arr vs hl hr hn => exact .tup arr vs hl (fun j x hx => flat2_reads (hr j x hx) (List.all_eq_true.1 hf x (List.mem_of_getElem? hx)) k) hn
  | agg arr cs hl hr ho => exact flat2_reads (.agg arr cs hl hr ho) hf k
  | int k n => exact .int k n
  | bool b => exact .bool b
  | str s hs => exact .str s hs
  | _ => simp [flat, flat2, flat1] at hf
end
end Vm
end Go.Proofs.Ytdjfaepokfdihaa
