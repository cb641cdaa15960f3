/- Each operation of the small machine is the model's (first part: what only reads). -/
import Derived.Test.YtdjfaepokfdihaaVmLow
set_option linter.unusedVariables false
namespace Go.Proofs.Ytdjfaepokfdihaa
namespace Vm
open Go.RowKit

section
variable {h : Hp} {hd : Nat → Value} {bl : Nat → Option Blk} {v : Value}
theorem inv_int {k : IntKind} {n : Int} (r : R3 h hd bl v (.d (.int k n))) : v = .int k n := by cases (show Reads h v _ from r.2); rfl
theorem inv_bool {b : Bool} (r : R3 h hd bl v (.d (.bool b))) : v = .bool b := by cases (show Reads h v _ from r.2); rfl
theorem inv_str {s : ByteArray} (r : R3 h hd bl v (.d (.str s))) : v = .string s ∧ s.size ≤ maxLen := by cases (show Reads h v _ from r.2); exact ⟨rfl, by assumption⟩
theorem inv_ptr {id off : Nat} (r : R3 h hd bl v (.ptr id off)) : (∃ b, bl id = some b ∧ b.isBox = true) ∧ ∃ g, hd id = .pointer (some ⟨g, 0, none⟩) ∧ v = .pointer (some ⟨g, off, none⟩) := r
theorem inv_agg {cs : List V} (r : R3 h hd bl v (.agg cs)) : ∃ arr, v = .agg arr ∧ arr.size = cs.length ∧ ∀ j x, cs[j]? = some x → R1 h hd bl (arr.getD j undef) x ∧ (arr.getD j undef).oneCell' = true := r
theorem inv_cell {b : Bool} {x : Value} {y : V} (r : R1 h hd bl x y) (hy : y = .d (.bool b)) : x = .bool b := by subst hy; cases (show Reads h x _ from r.2); rfl
end

theorem addr_add' (b off n : Nat) : (⟨b, off, none⟩ : Addr).add n = ⟨b, off + n, none⟩ := Addr.add_lit b off n

section
variable {P : Program} {w : World} {h : Hp} {hd : Nat → Value} {bl : Nat → Option Blk}

theorem run_isAgg {t : TypeId} {b : Bool} (e : isAggT P t = some b) : (isAgg t).run P w = .ok b w := by
  unfold isAggT at e
  cases hu : P.underlying t with
  | none => simp [hu] at e
  | some d =>
    unfold isAgg
    rw [Sem.run_bind, run_underlying hu w]
    rw [hu] at e
    cases d <;> simp at e <;> subst e <;> rfl
theorem run_sizeOf {t : TypeId} {i : TypeInfo} (e : P.info? t = some i) : (sizeOf t).run P w = .ok i.size w := by simp [sizeOf, typeInfo, e]
theorem run_typeInfo {t : TypeId} {i : TypeInfo} (e : P.info? t = some i) : (typeInfo t).run P w = .ok i w := by simp [typeInfo, e]

/-- a load out of cells that are there -/
theorem run_loadVar_cells {t : TypeId} {i : TypeInfo} {b : Bool} (hb : isAggT P t = some b) (hi : P.info? t = some i) (g off : Nat) (cs : List Value) (hl : cs.length = if b then i.size else 1)
    (hc : ∀ j u, cs[j]? = some u → w.cell? ⟨g, off + j, none⟩ = some u) : (loadVar t ⟨g, off, none⟩).run P w = .ok (if b then .agg cs.toArray else cs.getD 0 undef) w := by
  unfold loadVar
  rw [Sem.run_bind, run_isAgg hb]
  cases b with
  | true =>
    simp only [if_true] at hl ⊢
    have := run_loadCells_list (P := P) w ⟨g, off, none⟩ cs (fun j u hu => by rw [addr_add']; exact hc j u hu)
    rw [hl] at this
    simp [Result.andThen, run_sizeOf hi, this]
  | false =>
    obtain ⟨u, rfl⟩ : ∃ u, cs = [u] := by
      match cs, hl with
      | [u], _ => exact ⟨u, rfl⟩
    have := hc 0 u rfl
    simp only [Nat.add_zero] at this
    simp [Result.andThen, this]
end

section
variable {P : Program} {nt : Nat} {w0 w : World} {h0 h : Hp} {fr : Nat → V} {bl : Nat → Option Blk} {a : Act} {hd : Nat → Value}

/-- what a load finds -/
theorem load_ok (r : Rl nt w0 h0 fr bl a w h hd) {t : TypeId} {i : TypeInfo} {b : Bool} (hb : isAggT P t = some b) (hi : P.info? t = some i) {C : Nat → List D → Option D} {site : Nat} {x : Opd} {xv : Value} (hx : R3 h hd bl xv (evo fr x)) {v : V} {wr : List (Nat × Option Blk)}
    (ha : aop C site (evo fr) bl (.load i.size b x) = some (v, wr)) : wr = [] ∧ ∃ cv, (Instr.loadAt t xv).run P w = .ok cv w ∧ R3 h hd bl cv v := by
  simp only [aop] at ha
  generalize evo fr x = xx at ha hx
  -- cells of a row that is never written again
  have row_ok : ∀ (g o : Nat) (row : List D) (cv : Nat → Value) (off : Nat), (∀ (j : Nat) (y : D), row[j]? = some y → h.cell g (o + j) = some (cv j)) → (∀ (j : Nat) (y : D), row[j]? = some y → Reads h (cv j) y) → (∀ (j : Nat) (y : D), row[j]? = some y → (cv j).oneCell' = true) → (∀ (j : Nat) (y : D), row[j]? = some y → y.atom = true) →
      (if b then (if off + i.size ≤ row.length then some (V.agg (((row.drop off).take i.size).map .d), ([] : List (Nat × Option Blk))) else none) else row[off]?.map fun v => (V.d v, [])) = some (v, wr) →
      wr = [] ∧ ∃ cv', (loadVar t ⟨g, o + off, none⟩).run P w = .ok cv' w ∧ R3 h hd bl cv' v := by
    intro g o row cv off hm hr ho hat ha
    have hm' : ∀ (j : Nat) (y : D), row[j]? = some y → w.cell? ⟨g, o + j, none⟩ = some (cv j) := fun j y hy => by rw [cell_hw]; exact Hp.cell_le r.hle (hm j y hy)
    cases b with
    | true =>
      simp only [if_true] at ha
      split at ha
      · rename_i hlen
        cases ha
        refine ⟨rfl, _, run_loadVar_cells hb hi g (o + off) ((List.range i.size).map fun j => cv (off + j)) (by simp) ?_, ?_⟩
        · intro j u hu
          have hj : j < i.size := by simpa using (List.getElem?_eq_some_iff.1 hu).1
          have : u = cv (off + j) := by
            rw [List.getElem?_map, List.getElem?_range hj] at hu
            simpa using hu.symm
          subst this
          have : row[off + j]? = some row[off + j] := by simp
          have := hm' _ _ this
          rw [Nat.add_assoc]; exact this
        · refine ⟨_, rfl, by simp; omega, fun j x hx => ?_⟩
          rw [List.getElem?_map, Option.map_eq_some_iff] at hx
          obtain ⟨y, hy, rfl⟩ := hx
          rw [List.getElem?_take] at hy
          split at hy
          · rename_i hj
            rw [List.getElem?_drop] at hy
            have e : (((List.range i.size).map fun j => cv (off + j)).toArray.getD j undef) = cv (off + j) := by simp [hj]
            rw [e]
            exact ⟨⟨hat _ _ hy, hr _ _ hy⟩, ho _ _ hy⟩
          · cases hy
      · cases ha
    | false =>
      simp only [Bool.false_eq_true, if_false, Option.map_eq_some_iff] at ha
      obtain ⟨y, hy, ha⟩ := ha
      cases ha
      refine ⟨rfl, _, run_loadVar_cells hb hi g (o + off) [cv off] (by simp) ?_, ?_⟩
      · intro j u hu
        obtain rfl : j = 0 := by
          have := (List.getElem?_eq_some_iff.1 hu).1
          simp at this; omega
        simp at hu
        subst hu
        exact hm' _ _ hy
      · exact ⟨hat _ _ hy, by simpa using hr _ _ hy⟩
  have atoms : ∀ (n : Nat) (row : List D) (cv : Nat → Value), (∀ (j : Nat) (y : D), row[j]? = some y → Reads h (cv j) y) → (∀ (j : Nat) (y : D), row[j]? = some y → (cv j).oneCell' = true) → ∀ (j : Nat) (y : D), row[j]? = some y → y.atom = true := by
    intro n row cv hr ho j y hy
    have h1 := hr j y hy
    have h2 := ho j y hy
    cases y <;> first | rfl | (generalize cv j = u at h1 h2; cases h1; simp [Value.oneCell'] at h2)
  cases xx with
  | ptr id off =>
    obtain ⟨⟨bb, hbl, hbx⟩, g, hg, rfl⟩ := inv_ptr hx
    cases bb with
    | rows => simp [Blk.isBox] at hbx
    | froz => simp [Blk.isBox] at hbx
    | fbox row =>
      have hr0 := r.blk id _ hbl
      simp only [BR, hg] at hr0
      have hr1 := ptr_off (off := off) hr0
      simp only [hbl] at ha
      generalize hq : D.ptr row off = q at hr1
      cases hr1 <;> first | (cases hq; done) | skip
      cases hq
      rename_i o cv hr ho hm hn
      have := row_ok g o row cv off hm hr ho (atoms 0 row cv hr ho) ha
      rw [← hn] at this
      simp only [Instr.loadAt, Instr.sureAddr, Sem.run_bind, Sem.run_pure, Result.andThen_ok]
      exact this
    | box cs =>
      obtain ⟨g', arr, e, q1, q2, q3, q4, q5, q6⟩ := r.blk id _ hbl
      rw [hg] at q1
      cases q1
      simp only [hbl] at ha
      have hm' : ∀ (j : Nat) (y : V), cs[j]? = some y → w.cell? ⟨g, j, none⟩ = some (arr.getD j undef) := fun j y hy => by
        rw [cell_of_row w g j arr e _ q3]
        have : j < arr.size := by rw [q4]; exact (List.getElem?_eq_some_iff.1 hy).1
        simp [this]
      simp only [Instr.loadAt, Instr.sureAddr, Sem.run_bind, Sem.run_pure, Result.andThen_ok]
      cases b with
      | true =>
        simp only [if_true] at ha
        split at ha
        · rename_i hlen
          cases ha
          refine ⟨rfl, _, run_loadVar_cells hb hi g off ((List.range i.size).map fun j => arr.getD (off + j) undef) (by simp) ?_, ?_⟩
          · intro j u hu
            have hj : j < i.size := by simpa using (List.getElem?_eq_some_iff.1 hu).1
            have : u = arr.getD (off + j) undef := by
              rw [List.getElem?_map, List.getElem?_range hj] at hu
              simpa using hu.symm
            subst this
            exact hm' (off + j) cs[off + j] (by simp)
          · refine ⟨_, rfl, by simp; omega, fun j x hx => ?_⟩
            rw [List.getElem?_take] at hx
            split at hx
            · rename_i hj
              rw [List.getElem?_drop] at hx
              have e : (((List.range i.size).map fun j => arr.getD (off + j) undef).toArray.getD j undef) = arr.getD (off + j) undef := by simp [hj]
              rw [e]
              exact q5 _ _ hx
            · cases hx
        · cases ha
      | false =>
        simp only [Bool.false_eq_true, if_false, Option.map_eq_some_iff] at ha
        obtain ⟨y, hy, ha⟩ := ha
        cases ha
        refine ⟨rfl, _, run_loadVar_cells hb hi g off [arr.getD off undef] (by simp) ?_, ?_⟩
        · intro j u hu
          obtain rfl : j = 0 := by
            have := (List.getElem?_eq_some_iff.1 hu).1
            simp at this; omega
          simp only [List.getElem?_cons_zero, Option.some.injEq] at hu
          subst hu
          exact hm' _ _ hy
        · exact R3.of2 (R2.of1 (by simpa using (q5 _ _ hy).1))
  | d y =>
    cases y with
    | ptr row off =>
      simp only at ha
      obtain ⟨hat, hr⟩ : D.atom _ = true ∧ Reads h xv (.ptr row off) := hx
      generalize hq : D.ptr row off = q at hr
      cases hr <;> first | (cases hq; done) | skip
      rename_i b' o off' n row' cv hn hm hr ho
      cases hq
      subst hn
      simp only [Instr.loadAt, Instr.sureAddr, Sem.run_bind, Sem.run_pure, Result.andThen_ok]
      exact row_ok b' o row cv off hm hr ho (atoms 0 row cv hr ho) ha
    | _ => cases ha
  | orow id ver ii off =>
    simp only at ha
    cases hbl : bl id with
    | none => simp [hbl] at ha
    | some blk =>
      cases blk with
      | rows vv e sz rows =>
        simp only [hbl] at ha
        split at ha
        · rename_i hv
          subst hv
          obtain ⟨b', c, hb', hc, hle, _, hx'⟩ : ∃ b c, bl id = some b ∧ b.ver? = some c ∧ ver ≤ c ∧ xv.oneCell' = true ∧ ∀ e size rows, b = .rows ver e size rows → ∃ g n c, hd id = .slice (some ⟨g, 0, none⟩) n c ∧ xv = .pointer (some ⟨g, ii * size + off, none⟩) := hx
          rw [hbl] at hb'
          cases hb'
          obtain ⟨g, n, c, hg, rfl⟩ := hx' e sz rows rfl
          obtain ⟨q1, q2, ⟨xs, q3, q4⟩, q5⟩ := r.blk id _ hbl
          cases hrow : rows[ii]? with
          | none => simp [hrow] at ha
          | some row =>
            simp only [hrow] at ha
            obtain ⟨p1, p2⟩ := q4 ii row hrow
            rcases q3.2 with ⟨q6, _⟩ | ⟨g', cap, cur, q6, q7, q8, q9, q10, q11, q12⟩
            · rw [hg] at q6; cases q6
            · rw [hg] at q6
              cases q6
              have hcell : ∀ (j : Nat) (y : D), row[j]? = some y → ∃ u, cur[ii * sz + j]? = some u ∧ Reads h u y ∧ y.atom = true := by
                intro j y hy
                obtain ⟨s1, u, s2, s3⟩ := p2 j y hy
                rw [← q12, List.getElem?_take] at s2
                split at s2
                · exact ⟨u, by simpa using s2, s3, s1⟩
                · cases s2
              simp only [Instr.loadAt, Instr.sureAddr, Sem.run_bind, Sem.run_pure, Result.andThen_ok]
              -- here the cells lie in memory of the call's own
              have hm' : ∀ (j : Nat) (y : D), row[j]? = some y → w.cell? ⟨g, ii * sz + j, none⟩ = some (cur.getD (ii * sz + j) undef) := fun j y hy => by
                obtain ⟨u, s1, s2, s3⟩ := hcell j y hy
                rw [cell_of_row w g _ cur e _ q8]
                simp [s1]
              have hrd : ∀ (j : Nat) (y : D), row[j]? = some y → Reads h (cur.getD (ii * sz + j) undef) y ∧ y.atom = true := fun j y hy => by
                obtain ⟨u, s1, s2, s3⟩ := hcell j y hy
                simp only [Array.getD_eq_getD_getElem?, s1, Option.getD_some]
                exact ⟨s2, s3⟩
              cases b with
              | true =>
                simp only [if_true] at ha
                split at ha
                · rename_i hlen
                  cases ha
                  refine ⟨rfl, _, run_loadVar_cells hb hi g (ii * sz + off) ((List.range i.size).map fun j => cur.getD (ii * sz + (off + j)) undef) (by simp) ?_, ?_⟩
                  · intro j u hu
                    have hj : j < i.size := by simpa using (List.getElem?_eq_some_iff.1 hu).1
                    have : u = cur.getD (ii * sz + (off + j)) undef := by
                      rw [List.getElem?_map, List.getElem?_range hj] at hu
                      simpa using hu.symm
                    subst this
                    rw [Nat.add_assoc]
                    exact hm' (off + j) row[off + j] (by simp)
                  · refine ⟨_, rfl, by simp; omega, fun j x hx => ?_⟩
                    rw [List.getElem?_map, Option.map_eq_some_iff] at hx
                    obtain ⟨y, hy, rfl⟩ := hx
                    rw [List.getElem?_take] at hy
                    split at hy
                    · rename_i hj
                      rw [List.getElem?_drop] at hy
                      have e : (((List.range i.size).map fun j => cur.getD (ii * sz + (off + j)) undef).toArray.getD j undef) = cur.getD (ii * sz + (off + j)) undef := by simp [hj]
                      rw [e]
                      exact ⟨⟨(hrd _ _ hy).2, (hrd _ _ hy).1⟩, (hrd _ _ hy).1.one (hrd _ _ hy).2⟩
                    · cases hy
                · cases ha
              | false =>
                simp only [Bool.false_eq_true, if_false, Option.map_eq_some_iff] at ha
                obtain ⟨y, hy, ha⟩ := ha
                cases ha
                refine ⟨rfl, _, run_loadVar_cells hb hi g (ii * sz + off) [cur.getD (ii * sz + off) undef] (by simp) ?_, ?_⟩
                · intro j u hu
                  obtain rfl : j = 0 := by
                    have := (List.getElem?_eq_some_iff.1 hu).1
                    simp at this; omega
                  simp only [List.getElem?_cons_zero, Option.some.injEq] at hu
                  subst hu
                  exact hm' _ _ hy
                · exact ⟨(hrd _ _ hy).2, by simpa using (hrd _ _ hy).1⟩
        · cases ha
      | _ => simp [hbl] at ha
  | _ => cases ha
end
end Vm
end Go.Proofs.Ytdjfaepokfdihaa
