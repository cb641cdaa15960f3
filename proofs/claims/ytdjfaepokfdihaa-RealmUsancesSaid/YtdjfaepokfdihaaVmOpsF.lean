/- Each operation of the small machine is the model's (sixth part: slices that are built and cut). -/
import Derived.Test.YtdjfaepokfdihaaVmOpsE
import Derived.Lib.ConvBytes
set_option linter.unusedVariables false
namespace Go.Proofs.Ytdjfaepokfdihaa
namespace Vm
open Go.RowKit

section
variable {P : Program} {nt : Nat} {w0 w : World} {h0 h : Hp} {fr : Nat → V} {bl : Nat → Option Blk} {a : Act} {hd : Nat → Value}

theorem fz_site {wr : List (Nat × Option Blk)} (hok : FzOk bl wr) {site : Nat} (hs : bl site = none) : updB bl wr site = none := by
  unfold updB
  rcases lk_mem wr (bl site) site with q | ⟨p, q1, q2, q3⟩
  · rw [q]; exact hs
  · obtain ⟨b, h1, _⟩ := hok.live q1
    rw [q2, hs] at h1; cases h1

theorem buildSlice_run (r : Rl nt w0 h0 fr bl a w h hd) {t e : TypeId} {i : TypeInfo} {z : Value} {zs : List V} {row : List D} (ht : P.underlying t = some (.slice e)) (hi : P.info? e = some i) (hz : i.zero = some z) (hzs : mapM' lowV1 z.cells.toList = some zs) (hrow : mapM' dOf zs = some row)
    {len : Nat} (h24 : len * i.size ≤ 16777216) (hsz : z.cells.size = i.size) (hpos : 0 < i.size) {ps : List (Nat × Operand)} {qs : List (Nat × Opd)} (hp : mapM' (fun (p : Nat × Operand) => (lowX p.2).map fun x => (p.1, x)) ps = some qs)
    {C : Nat → List D → Option D} {site : Nat} {v : V} {wr : List (Nat × Option Blk)} (dst : Option Nat) (hdst : ∀ d, dst = some d → d < nt) (ha : aop C site (evo fr) bl (.buildSlice e i.size row len qs) = some (v, wr)) :
    ∃ cv w' h' hd', (Instr.buildSlice t len (ps.map fun x => (x.1, a.eval x.2)).toArray).run P w = .ok cv w' ∧ Rl nt w0 h0 (updF fr dst v) (updB bl wr) (a.put dst cv) w' h' hd' := by
  simp only [aop] at ha
  split at ha
  · rename_i hsite
    split at ha
    · rename_i rows hrows
      cases ha
      have hok : FzOk bl (qs.flatMap fun x => fz2 bl (evo fr x.2)) := FzOk.flatMap qs fun x => evo fr x.2
      obtain ⟨m1, m2⟩ := mapM'_some hp
      obtain ⟨z1, z2⟩ := zeros_ok (h := hFz w h hd (qs.flatMap fun x => fz2 bl (evo fr x.2))) hzs hrow
      have hz0 : (if len * i.size = 0 then (#[] : Array Value) else z.cells) = z.cells ∨ len = 0 := by
        by_cases hl : len = 0
        · exact .inr hl
        · rw [if_neg]; exact .inl rfl
          intro he
          rcases Nat.mul_eq_zero.1 he with q | q <;> omega
      -- the zeros
      have hzero : ∀ j, j < len * i.size → ((Array.range (len * i.size)).map ((if len * i.size = 0 then (#[] : Array Value) else z.cells)[· % (if len * i.size = 0 then (#[] : Array Value) else z.cells).size]!)).toList[j]? = some (z.cells.getD (j % i.size) undef) := by
        intro j hj
        have hne : len * i.size ≠ 0 := by omega
        simp only [if_neg hne]
        have hlt : j % i.size < z.cells.size := by rw [hsz]; exact Nat.mod_lt _ hpos
        simp [hj, hsz]
        rw [getElem!_pos z.cells (j % i.size) hlt]
        simp [hlt]
      obtain ⟨arr', g1, g2, g3, g4, g5⟩ := fillRows_ok i.size hpos (ps.map fun x => (x.1, a.eval x.2)) (qs.map fun x => (x.1, evo fr x.2)) ((Array.range (len * i.size)).map ((if len * i.size = 0 then (#[] : Array Value) else z.cells)[· % (if len * i.size = 0 then (#[] : Array Value) else z.cells).size]!)) (List.replicate len row) rows
        (bl := bl) (hh := hFz w h hd (qs.flatMap fun x => fz2 bl (evo fr x.2))) (fun v x => R3 h hd bl v x ∧ ∀ p ∈ fz2 bl x, p ∈ qs.flatMap fun x => fz2 bl (evo fr x.2)) (by
          rintro v x row' ⟨hx, hw⟩ hm
          have hk : x.known = true := by cases x <;> first | rfl | (simp [V.cells, mapM', toD1, toD0] at hm)
          obtain ⟨c1, c2⟩ := cells_ok hx hk
          obtain ⟨n1, n2⟩ := mapM'_some hm
          refine ⟨by omega, fun j d hj => ?_⟩
          obtain ⟨y, y1, y2⟩ := mapM'_back hm hj
          have := toD1_ok r (qs.flatMap fun x => fz2 bl (evo fr x.2)) (c2 j y y1).1 y2 (fun p hp => hw p (by
            cases x with
            | agg cs => exact List.mem_flatMap.2 ⟨y, List.mem_of_getElem? y1, hp⟩
            | _ =>
              have hz : y = _ := (List.mem_singleton.1 (List.mem_of_getElem? y1))
              rw [hz] at hp; exact hp))
          exact ⟨this.2, this.1, (c2 j y y1).2⟩)
        (by simp) (rowsIn_zeros hsz (z1.trans hsz) hpos z2 len (by
          intro j hj; exact hzero j hj)) (by
          intro u hu
          obtain ⟨j, hj⟩ := List.mem_iff_getElem?.1 hu
          have hlt : j < len * i.size := by have := (List.getElem?_eq_some_iff.1 hj).1; simpa using this
          rw [hzero j hlt] at hj
          cases hj
          have : j % i.size < row.length := by rw [z1, hsz]; exact Nat.mod_lt _ hpos
          exact (z2 (j % i.size) row[j % i.size] (by simp [this])).2.2) (by simpa using m1) (by
          intro j p q hp' hq'
          rw [List.getElem?_map, Option.map_eq_some_iff] at hp' hq'
          obtain ⟨p0, p1, rfl⟩ := hp'
          obtain ⟨q0, q1, rfl⟩ := hq'
          obtain ⟨y, y1, y2⟩ := m2 j p0 p1
          rw [q1] at y1
          cases y1
          rw [Option.map_eq_some_iff] at y2
          obtain ⟨x, x1, x2⟩ := y2
          subst x2
          exact ⟨rfl, lowX_ok r.frame x1, fun p hp => List.mem_flatMap.2 ⟨_, List.mem_of_getElem? q1, hp⟩⟩) hrows
      have r' := r.freeze _ hok
      have hlen : rows.length = len := by rw [g3]; simp
      have hle : rows.length ≤ maxLen := by
        have : len ≤ len * i.size := Nat.le_mul_of_pos_right _ hpos
        unfold maxLen; omega
      obtain ⟨hd', hr⟩ := r'.newRows (w' := w.alloc (.cells arr' e)) dst hdst site (fz_site hok hsite) e i.size rows (.slice (some ⟨w.heap.size, 0, none⟩) rows.length rows.length) arr'.toList hpos hle (World.grownBy_alloc w _ none)
        ⟨by simpa using g2, .inr ⟨w.heap.size, rows.length, arr', rfl, Nat.le_refl _, heap_alloc_new w _, Nat.le_refl _, hle, g2, by rw [List.take_of_length_le]; simp; omega⟩⟩ g4
      refine ⟨_, _, _, hd', ?_, by rw [updB_cons]; exact hr⟩
      have h24' : ¬ (16777216 < len * i.size) := by omega
      rw [hlen]
      by_cases hne : len * i.size = 0
      · simp only [if_pos hne] at g1
        simp [Instr.buildSlice, run_underlying ht, run_sizeOf hi, h24', hne, Result.andThen, newRow] at g1 ⊢
        simp [g1]
      · simp only [if_neg hne] at g1
        simp [Instr.buildSlice, run_underlying ht, run_sizeOf hi, h24', hne, zeroValue, run_typeInfo hi, hz, Result.andThen, newRow, g1]
    · cases ha
  · cases ha

/-- slices of slices -/
theorem slice_run (r : Rl nt w0 h0 fr bl a w h hd) {t e : TypeId} {i : TypeInfo} (ht : P.underlying t = some (.slice e)) (hi : P.info? e = some i) {x : V} {xv : Value} (hx : R3 h hd bl xv x) {lo hi' : Option V} {lov hiv : Option Value}
    (hlo : ∀ x, lo = some x → ∃ u, lov = some u ∧ R3 h hd bl u x) (hhi : ∀ x, hi' = some x → ∃ u, hiv = some u ∧ R3 h hd bl u x) (nlo : lo = none → lov = none) (nhi : hi' = none → hiv = none)
    {v : V} {wr : List (Nat × Option Blk)} (dst : Option Nat) (hdst : ∀ d, dst = some d → d < nt) (ha : sliceV bl i.size x lo hi' = some (v, wr)) :
    ∃ cv h' hd', (Instr.sliceAt t xv lov hiv none).run P w = .ok cv w ∧ Rl nt w0 h0 (updF fr dst v) (updB bl wr) (a.put dst cv) w h' hd' := by
  have hat : ∀ (ao : Option Addr) (n c : Nat) (l m : Nat), (Instr.sliceBounds true n c lov hiv none).run P w = .ok (l, m, c) w → (Instr.sliceAt t (.slice ao n c) lov hiv none).run P w = .ok (.slice (if c = l then ao else ao.map (·.add (l * i.size))) (m - l) (c - l)) w := by
    intro ao n c l m hb
    simp [Instr.sliceAt, Instr.slice, run_underlying ht, hb, run_sizeOf hi, Result.andThen]
  have general : ∀ (rows : List (List D)) (h' l' : Int), rowsOf bl x = some rows → bnd rows.length hi' = some h' → bnd 0 lo = some l' → 0 ≤ l' → l' ≤ h' → h'.toNat ≤ rows.length → sized i.size rows = true →
      ∃ cv hh, (Instr.sliceAt t xv lov hiv none).run P w = .ok cv w ∧ Rl nt w0 h0 (updF fr dst (.d (.sl ((rows.take h'.toNat).drop l'.toNat)))) (updB bl (fz1 bl x)) (a.put dst cv) w hh hd := by
    intro rows h' l' hro e1 e2 c1 c2 c3 c4
    have hs : ∀ row ∈ rows, row.length = i.size := fun row hr => by simpa using List.all_eq_true.1 c4 row hr
    obtain ⟨ao, n, c, rfl, hn, hnc, hsub⟩ := (rowsOf_ok r hx hro).sub hs (l := l'.toNat) (m := h'.toNat) (by omega) c3
    have hb := bounds_run (P := P) (w := w) hlo hhi nlo nhi (n := n) (c := c) (l := l') (m := h') (by rw [← hn]; exact e1) e2 c1 c2 (by omega) true
    refine ⟨_, _, hat ao n c _ _ hb, (r.freeze _ (fz1_ok x)).put0 dst _ _ hdst ⟨rfl, hsub⟩⟩
  rw [sliceV_eq] at ha
  split at ha
  · rename_i id ver k q
    cases hb : bl id with
    | none => simp [hb] at ha
    | some b =>
      cases b with
      | rows v' e' s rows =>
        simp only [hb] at ha
        split at ha
        · rename_i hc
          obtain ⟨rfl, c1, c2⟩ := hc
          cases ha
          obtain ⟨b, c', hb', hc', hle, h1, he⟩ : ∃ b c, bl id = some b ∧ b.ver? = some c ∧ ver ≤ c ∧ xv.oneCell' = true ∧ (ver = c → xv = hd id) := hx
          rw [hb] at hb'
          cases hb'
          simp only [Blk.ver?, Option.some.injEq] at hc'
          obtain rfl := he hc'
          obtain ⟨q1, q2, ⟨xs, q3, q4⟩, q5⟩ := r.blk id _ hb
          have hgrown : w.grownBy w (hd id).ownBlock := ⟨rfl, rfl, rfl, Nat.le_refl _, fun _ _ _ => rfl⟩
          have htk : (rows.take q.toNat).length = q.toNat := by rw [List.length_take]; omega
          have hq4 : RowsIn h s (rows.take q.toNat) (xs.take (q.toNat * s)) := by
            intro i' row hi'
            rw [List.getElem?_take] at hi'
            split at hi'
            · rename_i hlt
              obtain ⟨g1, g2⟩ := q4 i' row hi'
              refine ⟨g1, fun j y hy => ?_⟩
              obtain ⟨g3, u, g4, g5⟩ := g2 j y hy
              refine ⟨g3, u, ?_, g5⟩
              have hj : j < s := by rw [← g1]; exact (List.getElem?_eq_some_iff.1 hy).1
              rw [List.getElem?_take, if_pos]
              · exact g4
              · have : (i' + 1) * s ≤ q.toNat * s := Nat.mul_le_mul_right _ (by omega)
                rw [Nat.add_mul] at this; omega
            · cases hi'
          have hxl : xs.length = rows.length * s := q3.1
          have hmul : q.toNat * s ≤ rows.length * s := Nat.mul_le_mul_right _ c2
          rcases q3.2 with ⟨q6, q7⟩ | ⟨g, cap, cur, q6, q7, q8, q9, q10, q11, q12⟩
          · have hq0 : q.toNat = 0 := by omega
            have hbd := bounds_run (P := P) (w := w) hlo hhi nlo nhi (n := 0) (c := 0) (l := 0) (m := q) rfl rfl (by omega) c1 (by omega) true
            obtain ⟨hd', hr⟩ := r.grow (w' := w) dst hdst id ver e' s rows (rows.take q.toNat) hb (hd id) [] (by omega) hgrown (by rw [htk, hq0, q6]; exact World.ownsRow_nil w _ e' s)
              (by rw [hq0]; intro i' row hi'; simp at hi') (fun g hg => .inr hg)
            refine ⟨hd id, _, hd', ?_, hr⟩
            rw [q6, hat none 0 0 _ _ hbd]
            simp [hq0]
          · have hbd := bounds_run (P := P) (w := w) hlo hhi nlo nhi (n := rows.length) (c := cap) (l := 0) (m := q) rfl rfl (by omega) c1 (by omega) true
            obtain ⟨hd', hr⟩ := r.grow (w' := w) dst hdst id ver e' s rows (rows.take q.toNat) hb (.slice (some ⟨g, 0, none⟩) q.toNat cap) (xs.take (q.toNat * s)) (by omega) hgrown
              (by
                rw [htk]
                refine ⟨by rw [List.length_take]; omega, .inr ⟨g, cap, cur, rfl, q7, q8, by omega, q10, q11, ?_⟩⟩
                rw [← q12, List.take_take]
                congr 1
                omega) hq4 (fun g' hg' => .inr (by rw [q6]; exact hg'))
            refine ⟨.slice (some ⟨g, 0, none⟩) q.toNat cap, _, hd', ?_, hr⟩
            rw [q6, hat (some ⟨g, 0, none⟩) rows.length cap _ _ hbd]
            simp [Addr.add_zero']
        · cases ha
      | _ => simp [hb] at ha
  · cases hro : rowsOf bl x with
    | none => simp [hro] at ha
    | some rows =>
      simp only [hro] at ha
      split at ha
      · rename_i h' l' e1 e2
        split at ha
        · rename_i hc
          obtain ⟨c1, c2, c3, c4⟩ := hc
          cases ha
          obtain ⟨cv, hh, g1, g2⟩ := general rows h' l' hro e1 e2 c1 c2 c3 c4
          exact ⟨cv, hh, hd, g1, g2⟩
        · cases ha
      · cases ha
theorem strSliceV_eq (x : V) (lo hi : Option V) : strSliceV x lo hi = (match x with
  | .d (.str s) => match bnd s.size hi, bnd 0 lo with
    | some h, some l => if 0 ≤ l ∧ l ≤ h ∧ h.toNat ≤ s.size then some (.d (.str (s.extract l.toNat h.toNat)), []) else none
    | _, _ => none
  | _ => none) := rfl
theorem strSlice_run {t : TypeId} (ht : P.underlying t = some .string) {x : V} {xv : Value} (hx : R3 h hd bl xv x) {lo hi' : Option V} {lov hiv : Option Value}
    (hlo : ∀ x, lo = some x → ∃ u, lov = some u ∧ R3 h hd bl u x) (hhi : ∀ x, hi' = some x → ∃ u, hiv = some u ∧ R3 h hd bl u x) (nlo : lo = none → lov = none) (nhi : hi' = none → hiv = none)
    {v : V} {wr : List (Nat × Option Blk)} (ha : strSliceV x lo hi' = some (v, wr)) : wr = [] ∧ ∃ cv, (Instr.sliceAt t xv lov hiv none).run P w = .ok cv w ∧ R3 h hd bl cv v := by
  rw [strSliceV_eq] at ha
  split at ha
  · rename_i s
    obtain ⟨rfl, hsz⟩ := inv_str hx
    split at ha
    · rename_i h' l' e1 e2
      split at ha
      · rename_i hc
        obtain ⟨c1, c2, c3⟩ := hc
        cases ha
        have hb := bounds_run (P := P) (w := w) hlo hhi nlo nhi (n := s.size) (c := s.size) (l := l') (m := h') e1 e2 c1 c2 c3 false
        refine ⟨rfl, .string (s.extract l'.toNat h'.toNat), ?_, rfl, .str _ ?_⟩
        · simp [Instr.sliceAt, Instr.slice, run_underlying ht, hb, Result.andThen]
        · have : (s.extract l'.toNat h'.toNat).size ≤ s.size := by simp [ByteArray.size_extract]; omega
          omega
      · cases ha
    · cases ha
  · cases ha
theorem indexS_run {t : TypeId} (ht : P.underlying t = some .string) {C : Nat → List D → Option D} {site : Nat} {x j : Opd} {xv jv : Value} (hx : R3 h hd bl xv (evo fr x)) (hj : R3 h hd bl jv (evo fr j)) {v : V} {wr : List (Nat × Option Blk)}
    (ha : aop C site (evo fr) bl (.index x j) = some (v, wr)) : wr = [] ∧ ∃ cv, (Instr.index t xv jv).run P w = .ok cv w ∧ R3 h hd bl cv v := by
  simp only [aop] at ha
  generalize evo fr x = xx at ha hx
  generalize evo fr j = jj at ha hj
  split at ha
  · rename_i s k n
    rw [(inv_str hx).1, inv_int hj]
    split at ha
    · rename_i h0
      split at ha
      · rename_i b hb
        cases ha
        exact ⟨rfl, .int .u8 b.toNat, by simp [Instr.index, asIntOf, run_underlying ht, Result.andThen, h0, hb], rfl, .int _ _⟩
      · cases ha
    · cases ha
  · cases ha
theorem extract_run {C : Nat → List D → Option D} {site : Nat} {x : Opd} {n : Nat} {xv : Value} (hx : R3 h hd bl xv (evo fr x)) {v : V} {wr : List (Nat × Option Blk)}
    (ha : aop C site (evo fr) bl (.extract x n) = some (v, wr)) : wr = [] ∧ ∃ cv, (Instr.extract xv n).run P w = .ok cv w ∧ R3 h hd bl cv v := by
  simp only [aop] at ha
  generalize evo fr x = xx at ha hx
  split at ha
  · rename_i vs
    obtain ⟨arr, rfl, h1, h2⟩ : ∃ arr, xv = .tuple arr ∧ arr.size = vs.length ∧ ∀ j x, vs[j]? = some x → R2 h hd bl (arr.getD j undef) x := hx
    rw [Option.map_eq_some_iff] at ha
    obtain ⟨y, hy, ha⟩ := ha
    cases ha
    have hlt : n < arr.size := by rw [h1]; exact (List.getElem?_eq_some_iff.1 hy).1
    have := h2 n _ hy
    refine ⟨rfl, arr[n], by simp [Instr.extract, hlt], R3.of2 ?_⟩
    simpa [hlt] using this
  · cases ha

/-! structs that are compared -/
theorem eqCells_app : ∀ (k1 k2 : List Nat) (x y : List V) (b : Bool), eqCells (k1 ++ k2) x y = some b → ∃ b1 b2, eqCells k1 (x.take k1.length) (y.take k1.length) = some b1 ∧ eqCells k2 (x.drop k1.length) (y.drop k1.length) = some b2 ∧ b = (b1 && b2)
  | [], k2, x, y, b, h => ⟨true, b, by simp [eqCells], by simpa using h, by simp⟩
  | k :: k1, k2, [], y, b, h => by simp [eqCells] at h
  | k :: k1, k2, x :: xs, [], b, h => by simp [eqCells] at h
  | k :: k1, k2, x :: xs, y :: ys, b, h => by
    simp only [List.cons_append, eqCells] at h
    split at h
    · rename_i a ha
      split at h
      · rename_i c hc
        cases h
        obtain ⟨b1, b2, q1, q2, rfl⟩ := eqCells_app k1 k2 xs ys c hc
        exact ⟨a && b1, b2, by simp [eqCells, ha, q1], by simpa using q2, by rw [Bool.and_assoc]⟩
      · cases h
    · cases h
theorem eqCells_len : ∀ (ks : List Nat) (x y : List V) (b : Bool), eqCells ks x y = some b → x.length = ks.length ∧ y.length = ks.length
  | [], [], [], b, h => ⟨rfl, rfl⟩
  | [], _ :: _, _, b, h => by simp [eqCells] at h
  | [], [], _ :: _, b, h => by simp [eqCells] at h
  | k :: ks, [], _, b, h => by simp [eqCells] at h
  | k :: ks, _ :: _, [], b, h => by simp [eqCells] at h
  | k :: ks, x :: xs, y :: ys, b, h => by
    simp only [eqCells] at h
    split at h
    · split at h
      · rename_i c hc
        obtain ⟨h1, h2⟩ := eqCells_len ks xs ys c hc
        exact ⟨by simp [h1], by simp [h2]⟩
      · cases h
    · cases h

/-- the cells xs read as cs -/
def CellsR (h : Hp) (hd : Nat → Value) (bl : Nat → Option Blk) (xs : Array Value) (cs : List V) : Prop := xs.size = cs.length ∧ ∀ j x, cs[j]? = some x → R1 h hd bl (xs.getD j undef) x
theorem CellsR.sub {xs : Array Value} {cs : List V} (r : CellsR h hd bl xs cs) (o n : Nat) (hn : o + n ≤ cs.length) : CellsR h hd bl (xs.extract o (o + n)) ((cs.drop o).take n) := by
  refine ⟨by simp [r.1]; omega, fun j x hx => ?_⟩
  rw [List.getElem?_take] at hx
  split at hx
  · rename_i hj
    rw [List.getElem?_drop] at hx
    have e : (xs.extract o (o + n)).getD j undef = xs.getD (o + j) undef := by
      simp only [Array.getD_eq_getD_getElem?, Array.getElem?_extract]
      have := r.1
      rw [if_pos (by omega)]
    rw [e]; exact r.2 _ _ hx
  · cases hx
/-- a value of the type t whose cells are xs -/
def valAt (agg : Bool) (xs : Array Value) : Value := if agg then .agg xs else xs.getD 0 undef

theorem flatK_agg {P : Program} {d : Nat} {t : TypeId} {ks : List Nat} (e : flatK P d t = some ks) : ∃ b, isAggT P t = some b ∧ (b = false → ks.length = 1) := by
  cases d with
  | zero => simp [flatK] at e
  | succ d =>
    simp only [flatK] at e
    split at e <;> rename_i hu
    · cases e; exact ⟨false, by simp [isAggT, hu], fun _ => rfl⟩
    · cases e; exact ⟨false, by simp [isAggT, hu], fun _ => rfl⟩
    · cases e; exact ⟨false, by simp [isAggT, hu], fun _ => rfl⟩
    · exact ⟨true, by simp [isAggT, hu], fun h => by cases h⟩
    · cases e

def flatStep (P : Program) (n : Nat) (acc : Option (List Nat)) (f : Field) : Option (List Nat) := match acc with
        | none => none
        | some ks => if f.offset = ks.length ∧ f.name ≠ "_" then match flatK P n f.type, P.info? f.type with
            | some l, some i => if i.size = l.length then some (ks ++ l) else none
            | _, _ => none
          else none
theorem flatStep_none (P : Program) (n : Nat) : ∀ l : List Field, l.foldl (flatStep P n) none = none
  | [] => rfl
  | f :: l => by simp only [List.foldl_cons]; exact flatStep_none P n l
theorem flatStep_app {P : Program} {n : Nat} : ∀ (l : List Field) (ks ks' : List Nat), l.foldl (flatStep P n) (some ks) = some ks' → ∃ r, ks' = ks ++ r
  | [], ks, ks', e => ⟨[], by simp at e; simp [e]⟩
  | f :: l, ks, ks', e => by
    simp only [List.foldl_cons] at e
    cases hq : flatStep P n (some ks) f with
    | none => rw [hq, flatStep_none] at e; cases e
    | some k1 =>
      rw [hq] at e
      obtain ⟨r, rfl⟩ := flatStep_app l k1 ks' e
      simp only [flatStep] at hq
      split at hq
      · split at hq
        · split at hq
          · cases hq; exact ⟨_, List.append_assoc _ _ _⟩
          · cases hq
        · cases hq
      · cases hq
/-- the fields one behind the other -/
theorem eq_fields {n k : Nat} (IH : ∀ (t : TypeId) (ks : List Nat) (xs ys : Array Value) (cx cy : List V) (b bg : Bool), flatK P n t = some ks → CellsR h hd bl xs cx → CellsR h hd bl ys cy → eqCells ks cx cy = some b → isAggT P t = some bg → (Op.equalIn k t (valAt bg xs) (valAt bg ys)).run P w = .ok b w)
    (xs ys : Array Value) (cx cy : List V) (hx : CellsR h hd bl xs cx) (hy : CellsR h hd bl ys cy) : ∀ (l : List Field) (ks ks' : List Nat) (b : Bool),
    l.foldl (flatStep P n) (some ks) = some ks' → eqCells (ks'.drop ks.length) (cx.drop ks.length) (cy.drop ks.length) = some b → ks'.length ≤ cx.length → ks'.length ≤ cy.length →
    (forIn l (none, ()) (fun f (__s : Option Bool × Unit) => (if f.name ≠ "_" then do
              let __do_lift ← part f.type xs f.offset
              let __do_lift_1 ← part f.type ys f.offset
              let __do_lift ← Op.equalIn k f.type __do_lift __do_lift_1
              if (!__do_lift) = true then pure (ForInStep.done (some false, ())) else pure (ForInStep.yield (none, ()))
            else pure (ForInStep.yield (none, ())) : Sem (ForInStep (Option Bool × Unit))))).run P w = .ok (if b then none else some false, ()) w
  | [], ks, ks', b, e, he, h1, h2 => by
    simp only [List.foldl_nil, Option.some.injEq] at e
    subst e
    have hd1 : ks.drop ks.length = [] := by simp
    rw [hd1] at he
    have hb : b = true := by
      cases hcx : cx.drop ks.length with
      | nil => cases hcy : cy.drop ks.length with
        | nil => rw [hcx, hcy] at he; simpa [eqCells] using he.symm
        | cons _ _ => rw [hcx, hcy] at he; simp [eqCells] at he
      | cons _ _ => rw [hcx] at he; simp [eqCells] at he
    subst hb
    simp
  | f :: l, ks, ks', b, e, he, h1, h2 => by
    simp only [List.foldl_cons] at e
    cases hq : flatStep P n (some ks) f with
    | none => rw [hq, flatStep_none] at e; cases e
    | some k1 =>
      rw [hq] at e
      simp only [flatStep] at hq
      split at hq
      · rename_i hcnd
        obtain ⟨hoff, hname⟩ := hcnd
        split at hq
        · rename_i lf i hlf hif
          split at hq
          · rename_i hsz
            cases hq
            obtain ⟨r, rfl⟩ := flatStep_app l _ ks' e
            have e1 : (ks ++ lf ++ r).drop ks.length = lf ++ r := by rw [List.append_assoc]; simp
            rw [e1] at he
            obtain ⟨b1, b2, q1, q2, rfl⟩ := eqCells_app lf r _ _ b he
            simp only [List.length_append] at h1 h2
            obtain ⟨bg, hbg, hone⟩ := flatK_agg hlf
            have run1 := IH f.type lf (xs.extract ks.length (ks.length + lf.length)) (ys.extract ks.length (ks.length + lf.length)) _ _ b1 bg hlf (hx.sub ks.length lf.length (by omega)) (hy.sub ks.length lf.length (by omega)) q1 hbg
            have hpart : ∀ (zs : Array Value), ks.length + lf.length ≤ zs.size → (part f.type zs f.offset).run P w = .ok (valAt bg (zs.extract ks.length (ks.length + lf.length))) w := by
              intro zs hz
              unfold part valAt
              rw [Sem.run_bind, run_isAgg hbg, hoff]
              cases bg with
              | true => simp [Result.andThen, run_sizeOf hif, hsz]
              | false =>
                have hlen := hone rfl
                have hlt : ks.length < zs.size := by omega
                have h0 : 0 < (zs.extract ks.length (ks.length + lf.length)).size := by simp; omega
                have hmin : ks.length < min (ks.length + lf.length) zs.size := by omega
                have e3 : (zs.extract ks.length (ks.length + lf.length))[0]? = some zs[ks.length] := by
                  rw [Array.getElem?_extract, if_pos (by omega)]; simp [hlt]
                simp [Result.andThen, hlt, e3]
            have ih := eq_fields IH xs ys cx cy hx hy l (ks ++ lf) (ks ++ lf ++ r) b2 e (by
              have e2 : (ks ++ lf ++ r).drop (ks ++ lf).length = r := by simp
              rw [e2, List.length_append]
              simpa [List.drop_drop] using q2) (by simp; omega) (by simp; omega)
            rw [List.forIn_cons]
            simp only [hname, ne_eq, not_false_eq_true, if_true, Sem.run_bind, hpart xs (by rw [hx.1]; omega), hpart ys (by rw [hy.1]; omega), Result.andThen_ok, run1]
            cases b1 with
            | false => simp
            | true =>
              simp only [Bool.not_true, Bool.false_eq_true, if_false, Sem.run_pure, Result.andThen_ok, Bool.true_and]
              exact ih
          · cases hq
        · cases hq
      · cases hq

theorem eqCell0 {x y : V} {b : Bool} (e : eqCell 0 x y = some b) : ∃ k m n, x = .d (.int k m) ∧ y = .d (.int k n) ∧ b = (m == n) := by
  unfold eqCell at e
  split at e <;> first | (simp_all; done) | skip
  split at e
  · rename_i hk; subst hk; cases e; exact ⟨_, _, _, rfl, rfl, rfl⟩
  · cases e
theorem eqCell1 {x y : V} {b : Bool} (e : eqCell 1 x y = some b) : ∃ m n, x = .d (.bool m) ∧ y = .d (.bool n) ∧ b = (m == n) := by
  unfold eqCell at e
  split at e <;> first | (simp_all; done) | skip
  all_goals (cases e; exact ⟨_, _, rfl, rfl, rfl⟩)
theorem eqCell2 {x y : V} {b : Bool} (e : eqCell 2 x y = some b) : ∃ m n, x = .d (.str m) ∧ y = .d (.str n) ∧ b = (m == n) := by
  unfold eqCell at e
  split at e <;> first | (simp_all; done) | skip
  all_goals (cases e; exact ⟨_, _, rfl, rfl, rfl⟩)
theorem eq_run : ∀ (n k : Nat) (_ : n ≤ k) (t : TypeId) (ks : List Nat) (xs ys : Array Value) (cx cy : List V) (b bg : Bool), flatK P n t = some ks → CellsR h hd bl xs cx → CellsR h hd bl ys cy → eqCells ks cx cy = some b → isAggT P t = some bg → (Op.equalIn k t (valAt bg xs) (valAt bg ys)).run P w = .ok b w
  | 0, _, _, t, ks, xs, ys, cx, cy, b, bg, e, _, _, _, _ => by simp [flatK] at e
  | n + 1, 0, hk, t, ks, xs, ys, cx, cy, b, bg, e, _, _, _, _ => by omega
  | n + 1, k + 1, hk, t, ks, xs, ys, cx, cy, b, bg, e, hx, hy, he, hbg => by
    obtain ⟨hlx, hly⟩ := eqCells_len _ _ _ _ he
    have scalar : ∀ (κ : Nat), ks = [κ] → bg = false → ∃ u v, valAt bg xs = u ∧ valAt bg ys = v ∧ ∃ x y, R1 h hd bl u x ∧ R1 h hd bl v y ∧ eqCell κ x y = some b := by
      rintro κ rfl rfl
      match cx, cy, hlx, hly with
      | [x], [y], _, _ =>
        refine ⟨_, _, rfl, rfl, x, y, hx.2 0 x rfl, hy.2 0 y rfl, ?_⟩
        simp only [eqCells] at he
        split at he
        · rename_i a ha
          simp at he
          subst he
          exact ha
        · cases he
    simp only [flatK] at e
    split at e <;> rename_i hu
    · cases e
      have hb0 : bg = false := by simp [isAggT, hu] at hbg; exact hbg
      obtain ⟨u, v, h1, h2, x, y, h3, h4, h5⟩ := scalar 0 rfl hb0
      rw [h1, h2]
      obtain ⟨k', m, n', rfl, rfl, rfl⟩ := eqCell0 h5
      have g1 : u = _ := inv_int (R3.of2 (R2.of1 h3))
      have g2 : v = _ := inv_int (R3.of2 (R2.of1 h4))
      subst g1; subst g2
      simp [Op.equalIn, run_underlying hu]
    · cases e
      have hb0 : bg = false := by simp [isAggT, hu] at hbg; exact hbg
      obtain ⟨u, v, h1, h2, x, y, h3, h4, h5⟩ := scalar 1 rfl hb0
      rw [h1, h2]
      obtain ⟨m, n', rfl, rfl, rfl⟩ := eqCell1 h5
      have g1 : u = _ := inv_bool (R3.of2 (R2.of1 h3))
      have g2 : v = _ := inv_bool (R3.of2 (R2.of1 h4))
      subst g1; subst g2
      simp [Op.equalIn, run_underlying hu]
    · cases e
      have hb0 : bg = false := by simp [isAggT, hu] at hbg; exact hbg
      obtain ⟨u, v, h1, h2, x, y, h3, h4, h5⟩ := scalar 2 rfl hb0
      rw [h1, h2]
      obtain ⟨m, n', rfl, rfl, rfl⟩ := eqCell2 h5
      have g1 := (inv_str (R3.of2 (R2.of1 h3))).1
      have g2 := (inv_str (R3.of2 (R2.of1 h4))).1
      subst g1; subst g2
      simp [Op.equalIn, run_underlying hu]
    · rename_i fs
      split at e
      · cases e
      · rename_i hst
        have hst : P.stoodInHeld t = false := by simpa using hst
        have hb0 : bg = true := by simp [isAggT, hu] at hbg; exact hbg
        subst hb0
        have := eq_fields (n := n) (k := k) (P := P) (w := w) (fun t ks xs ys cx cy b bg => eq_run n k (by omega) t ks xs ys cx cy b bg) xs ys cx cy hx hy fs.toList [] ks b e (by simpa using he) (by omega) (by omega)
        simp only [valAt, if_true, Op.equalIn, Sem.run_bind, run_underlying hu, Result.andThen_ok, run_program, hst, Bool.false_eq_true, if_false]
        rw [← Array.forIn_toList, this]
        cases b <;> simp
    · cases e
theorem eqS_run {t : TypeId} {ks : List Nat} (hk : flatK P 20 t = some ks) {fs : Array Field} (hu : P.underlying t = some (.struct fs)) (hg : P.eqGuardType P.depth t = false) {xv yv : Value} {x y : V} (hx : R3 h hd bl xv x) (hy : R3 h hd bl yv y) {neg : Bool} {d : D} (e : eqV ks neg x y = some d) (xo yo : Operand) :
    ∃ cv, ((do eqGuard (if neg then .neq else .eql) t xo yo xv yv; binOp (if neg then .neq else .eql) t xv yv) : Sem Value).run P w = .ok cv w ∧ Reads h cv d ∧ d.atom = true := by
  unfold eqV at e
  split at e
  · rename_i cx cy
    split at e
    · rename_i b hb
      cases e
      obtain ⟨xs, rfl, x1, x2⟩ := inv_agg hx
      obtain ⟨ys, rfl, y1, y2⟩ := inv_agg hy
      have hrun := eq_run (P := P) (w := w) 20 Op.maxDepth (by decide) t ks xs ys cx cy b true hk ⟨x1, fun j x hx => (x2 j x hx).1⟩ ⟨y1, fun j x hx => (y2 j x hx).1⟩ hb (by simp [isAggT, hu])
      have hrun' : (Op.equal t (.agg xs) (.agg ys)).run P w = .ok b w := hrun
      cases neg <;> exact ⟨_, by simp [eqGuard, hg, binOp, hrun', Result.andThen], .bool _, rfl⟩
    · cases e
  · cases e
/-- the bytes of a string -/
theorem bytes_run (r : Rl nt w0 h0 fr bl a w h hd) {src dst e : TypeId} (hs : P.underlying src = some .string) (hd' : P.underlying dst = some (.slice e)) (he : P.underlying e = some (.int .u8)) (s : ByteArray) :
    ∃ cv w' h', (convert src dst (.string s)).run P w = .ok cv w' ∧ h.le h' ∧ h'.le (hw w') ∧ (∀ b, b < w.heap.size → h' b = h b) ∧ Below w.heap.size w w' ∧ Reads h' cv (.sl (s.data.toList.map fun b => [.int .u8 b.toNat])) := by
  have hnew := Lib.bytesWorld_at_new w e s
  have hnone : h w.heap.size = none := h_fresh r.hle (Nat.le_refl _)
  refine ⟨_, Lib.bytesWorld w e s, fun b => if b = w.heap.size then (Lib.bytesWorld w e s).heap[b]? else h b, Lib.run_convert_string_bytes w src dst e s hs hd' he, ?_, ?_, ?_, ?_, ?_⟩
  · intro b o hb
    have : b ≠ w.heap.size := fun q => by rw [q, hnone] at hb; cases hb
    show (if b = w.heap.size then _ else h b) = _
    rw [if_neg this]; exact hb
  · intro b o hb
    have hb : (if b = w.heap.size then (Lib.bytesWorld w e s).heap[b]? else h b) = some o := hb
    split at hb
    · exact hb
    · have := r.hle b o hb
      have hlt : b < w.heap.size := (Array.getElem?_eq_some_iff.1 this).1
      exact (Lib.bytesWorld_at_old w e s b hlt).trans this
  · intro b hb
    show (if b = w.heap.size then _ else h b) = _
    rw [if_neg (by omega)]
  · refine ⟨?_, ?_, ?_, by rw [Lib.bytesWorld_size]; omega, fun k hk => Lib.bytesWorld_at_old w e s k hk⟩ <;> unfold Lib.bytesWorld World.freeze <;> split <;> rfl
  · have hsz : s.data.toList.length = s.size := Array.length_toList
    refine .sl w.heap.size 0 _ 1 s.size _ (fun i j => .int .u8 (s.data.toList.getD i 0).toNat) (by rw [List.length_map, hsz]) (by rw [List.length_map, hsz]; exact grownCap_ge w s.size 0 e) ?_ ?_ ?_ (fun i row j x h1 h2 => rfl)
    · intro i row hi
      rw [List.getElem?_map, Option.map_eq_some_iff] at hi
      obtain ⟨y, _, rfl⟩ := hi
      rfl
    · intro i row j x hi hj
      rw [List.getElem?_map, Option.map_eq_some_iff] at hi
      obtain ⟨y, hy, rfl⟩ := hi
      have hj0 : j = 0 := by
        have := (List.getElem?_eq_some_iff.1 hj).1
        simp at this; omega
      subst hj0
      have hlt : i < s.size := by rw [← hsz]; exact (List.getElem?_eq_some_iff.1 hy).1
      have := Lib.bytesWorld_cell w e s i hlt
      rw [cell_hw] at this
      have e2 : (fun b => if b = w.heap.size then (Lib.bytesWorld w e s).heap[b]? else h b : Hp) w.heap.size = hw (Lib.bytesWorld w e s) w.heap.size := by
        simp [hw]
      simp only [Hp.cell] at this ⊢
      simp only [Nat.mul_one, Nat.zero_add, Nat.add_zero, if_true]
      exact this
    · intro i row j x hi hj
      rw [List.getElem?_map, Option.map_eq_some_iff] at hi
      obtain ⟨y, hy, rfl⟩ := hi
      have hj0 : j = 0 := by
        have := (List.getElem?_eq_some_iff.1 hj).1
        simp at this; omega
      subst hj0
      simp only [List.getElem?_cons_zero, Option.some.injEq] at hj
      subst hj
      have : s.data.toList.getD i 0 = y := by simp only [List.getD_eq_getElem?_getD, hy]; rfl
      rw [this]
      exact .int .u8 _
end
end Vm
end Go.Proofs.Ytdjfaepokfdihaa
