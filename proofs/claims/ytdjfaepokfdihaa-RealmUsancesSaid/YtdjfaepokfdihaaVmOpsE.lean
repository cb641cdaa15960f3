/- Each operation of the small machine is the model's (fifth part: boxes, structs, rows that are written). -/
import Derived.Test.YtdjfaepokfdihaaVmOpsD
set_option linter.unusedVariables false
namespace Go.Proofs.Ytdjfaepokfdihaa
namespace Vm
open Go.RowKit

section
variable {P : Program} {nt : Nat} {w0 w : World} {h0 h : Hp} {fr : Nat → V} {bl : Nat → Option Blk} {a : Act} {hd : Nat → Value}

/-- a new variable -/
theorem newVar_run (r : Rl nt w0 h0 fr bl a w h hd) (dst : Option Nat) (hdst : ∀ d, dst = some d → d < nt) (site : Nat) (hs : bl site = none) (e : TypeId) (v : Value) (cs : List V) (hl : v.cells.size = cs.length)
    (hr : ∀ j x, cs[j]? = some x → R1 h hd bl (v.cells.getD j undef) x ∧ (v.cells.getD j undef).oneCell' = true) :
    ∃ cv w' hd', (do pure (.pointer (some (← newVar e v))) : Sem Value).run P w = .ok cv w' ∧ Rl nt w0 h0 (updF fr dst (.ptr site 0)) (updB bl [(site, some (.box cs))]) (a.put dst cv) w' h hd' := by
  obtain ⟨hd', h'⟩ := r.newBox dst hdst site hs v.cells e cs hl hr
  exact ⟨_, _, hd', by simp [newVar, newRow], h'⟩

/-- an atom that nobody may write: what it reads as, if nothing loses its owner -/
theorem toD1_still (r : Rl nt w0 h0 fr bl a w h hd) {v : Value} {x : V} {d : D} (hx : R1 h hd bl v x) (e : toD1 bl x = some d) (hf : fz1 bl x = []) : Reads h v d ∧ d.atom = true := by
  have := toD1_ok r [] hx e (by rw [hf]; simp)
  rw [hFz_nil] at this
  exact this

theorem notIn_of {id : Nat} : ∀ {l : List (Nat × Option Blk)}, notIn id l = true → ∀ p ∈ l, p.1 ≠ id
  | [], _, p, hp => by simp at hp
  | (i, b) :: l, h, p, hp => by
    simp only [notIn] at h
    split at h
    · cases h
    · rename_i hi
      rcases List.mem_cons.1 hp with rfl | hp
      · exact hi
      · exact notIn_of h p hp
/-- a store into a row of one's own -/
theorem storeRow_ok0 (r : Rl nt w0 h0 fr bl a w h hd) {t : TypeId} {i : TypeInfo} (hi : P.info? t = some i) {xv vv : Value} {id ver ii off : Nat} (hx : R3 h hd bl xv (.orow id ver ii off)) {e sz : Nat} {rows : List (List D)} (hb : bl id = some (.rows ver e sz rows))
    {row ds : List D} (hrow : rows[ii]? = some row) (hcellsR : ∀ (j : Nat) (d : D), ds[j]? = some d → d.atom = true ∧ Reads h (vv.cells.getD j undef) d ∧ (vv.cells.getD j undef).oneCell' = true) (hcl : vv.cells.size = ds.length) (hl : ds.length = i.size) (ho : off + i.size ≤ row.length) (dst : Option Nat) (hdst : ∀ d, dst = some d → d < nt) (cv : Value) :
    ∃ w' hd', (Instr.storeAt t xv vv).run P w = .ok () w' ∧ Rl nt w0 h0 (updF fr dst .any) (updB bl [(id, some (.rows ver e sz (rows.set ii (setAt row off ds))))]) (a.put dst cv) w' h hd' := by
  obtain ⟨b, c, hb', hc, hle, h1, he⟩ : ∃ b c, bl id = some b ∧ b.ver? = some c ∧ ver ≤ c ∧ xv.oneCell' = true ∧ ∀ e size rows, b = .rows ver e size rows → ∃ g n c, hd id = .slice (some ⟨g, 0, none⟩) n c ∧ xv = .pointer (some ⟨g, ii * size + off, none⟩) := hx
  rw [hb] at hb'
  cases hb'
  obtain ⟨g, n, c', hg, rfl⟩ := he e sz rows rfl
  obtain ⟨q1, q2, ⟨xs, q3, q4⟩, q5⟩ := r.blk id _ hb
  rcases q3.2 with ⟨q6, _⟩ | ⟨g', cap, cur, q6, q7, q8, q9, q10, q11, q12⟩
  · rw [hg] at q6; cases q6
  rw [hg] at q6
  cases q6
  obtain ⟨p1, p2⟩ := q4 ii row hrow
  have hii : ii < rows.length := (List.getElem?_eq_some_iff.1 hrow).1
  have hall : ∀ u ∈ vv.cells.toList, u.oneCell' = true := by
    intro u hu
    obtain ⟨j, hj, rfl⟩ := List.mem_iff_getElem.1 hu
    have hj' : j < vv.cells.size := by simpa using hj
    have := (hcellsR j (ds[j]'(by omega)) (by simp)).2.2
    simpa [hj'] using this
  have hfit : ii * sz + off + ds.length ≤ rows.length * sz := by
    have : (ii + 1) * sz ≤ rows.length * sz := Nat.mul_le_mul_right _ (by omega)
    rw [Nat.add_mul] at this; omega
  have hfit2 : ii * sz + off + ds.length ≤ cur.size := by
    rw [q11]; exact Nat.le_trans hfit (Nat.mul_le_mul_right _ q9)
  have hrc : rows.length * sz ≤ cur.size := by rw [q11]; exact Nat.mul_le_mul_right _ q9
  have hrun := run_storeCells_at P g (ii * sz + off) e vv.cells.toList 0 cur w q8 (by simp; omega) hall
  simp only [Nat.add_zero] at hrun
  have hfull : (Instr.storeAt t (.pointer (some ⟨g, ii * sz + off, none⟩)) vv).run P w = .ok () (w.setRow g (cur.toList.take (ii * sz + off) ++ vv.cells.toList ++ cur.toList.drop (ii * sz + off + vv.cells.toList.length)).toArray) := by
    have hsz : vv.cells.size = i.size := by omega
    simp [Instr.storeAt, Instr.sureAddr, storeVar, run_sizeOf hi, hsz, Result.andThen, hrun]
  have hlv : vv.cells.toList.length = ds.length := by simpa using hcl
  have hget : ∀ j, (cur.toList.take (ii * sz + off) ++ vv.cells.toList ++ cur.toList.drop (ii * sz + off + vv.cells.toList.length))[j]? = if ii * sz + off ≤ j ∧ j < ii * sz + off + ds.length then vv.cells.toList[j - (ii * sz + off)]? else cur.toList[j]? := fun j => by
    rw [splice_get _ _ _ _ (by simp; omega), hlv]
  obtain ⟨hd', h'⟩ := r.setRows (w' := w.setRow g (cur.toList.take (ii * sz + off) ++ vv.cells.toList ++ cur.toList.drop (ii * sz + off + vv.cells.toList.length)).toArray) dst hdst cv id ver e sz rows (rows.set ii (setAt row off ds)) hb
    ((cur.toList.take (ii * sz + off) ++ vv.cells.toList ++ cur.toList.drop (ii * sz + off + vv.cells.toList.length)).take (rows.length * sz)) (by simp) (by rw [hg]; exact grown_setRow w g _)
    (by
      rw [hg, List.length_set]
      refine ⟨by simp; omega, .inr ⟨g, _, _, rfl, q7, setRow_heap w g cur _ e _ q8, q9, q10, ?_, by simp⟩⟩
      simp; omega)
    (by
      intro i' row' hi'
      rw [List.getElem?_set] at hi'
      have hxs : ∀ (j : Nat), j < rows.length * sz → xs[j]? = cur.toList[j]? := fun j hj => by rw [← q12, List.getElem?_take, if_pos hj]
      split at hi'
      · rename_i heq
        subst heq
        simp only [hii, if_true, Option.some.injEq] at hi'
        subst hi'
        refine ⟨by rw [setAt_len]; exact p1, fun j x hx => ?_⟩
        rw [setAt_get row off ds j (by omega)] at hx
        have hjs : j < sz := by
          rw [← p1]
          split at hx
          · omega
          · exact (List.getElem?_eq_some_iff.1 hx).1
        have hlt : ii * sz + j < rows.length * sz := by
          have : (ii + 1) * sz ≤ rows.length * sz := Nat.mul_le_mul_right _ (by omega)
          rw [Nat.add_mul] at this; omega
        split at hx
        · rename_i hj
          obtain ⟨c1, c2, c3⟩ := hcellsR _ _ hx
          have hjd : j - off < vv.cells.size := by omega
          refine ⟨c1, vv.cells.getD (j - off) undef, ?_, c2⟩
          rw [List.getElem?_take, if_pos hlt, hget, if_pos (by omega)]
          have : ii * sz + j - (ii * sz + off) = j - off := by omega
          rw [this]
          simp [hjd]
        · rename_i hj
          obtain ⟨c1, u, c2, c3⟩ := p2 j x hx
          refine ⟨c1, u, ?_, c3⟩
          rw [List.getElem?_take, if_pos hlt, hget, if_neg (by omega), ← hxs _ hlt]
          exact c2
      · rename_i hne
        obtain ⟨c0, c1⟩ := q4 i' row' hi'
        refine ⟨c0, fun j x hx => ?_⟩
        obtain ⟨c2, u, c3, c4⟩ := c1 j x hx
        refine ⟨c2, u, ?_, c4⟩
        have hi'' : i' < rows.length := (List.getElem?_eq_some_iff.1 hi').1
        have hjs : j < sz := by rw [← c0]; exact (List.getElem?_eq_some_iff.1 hx).1
        have hlt : i' * sz + j < rows.length * sz := by
          have : (i' + 1) * sz ≤ rows.length * sz := Nat.mul_le_mul_right _ (by omega)
          rw [Nat.add_mul] at this; omega
        rw [List.getElem?_take, if_pos hlt, hget, if_neg ?_, ← hxs _ hlt]
        · exact c3
        · rintro ⟨g1, g2⟩
          rcases Nat.lt_or_gt_of_ne hne with hlt' | hlt'
          · have : (ii + 1) * sz ≤ i' * sz := Nat.mul_le_mul_right _ (by omega)
            rw [Nat.add_mul] at this; omega
          · have : (i' + 1) * sz ≤ ii * sz := Nat.mul_le_mul_right _ (by omega)
            rw [Nat.add_mul] at this; omega)
  exact ⟨_, hd', hfull, h'⟩

theorem storeRow_ok (r : Rl nt w0 h0 fr bl a w h hd) {t : TypeId} {i : TypeInfo} (hi : P.info? t = some i) {xv vv : Value} {id ver ii off : Nat} {y : V} (hx : R3 h hd bl xv (.orow id ver ii off)) (hy : R3 h hd bl vv y) {e sz : Nat} {rows : List (List D)} (hb : bl id = some (.rows ver e sz rows))
    {row ds : List D} (hrow : rows[ii]? = some row) (hds : mapM' (toD1 bl) y.cells = some ds) (hni : notIn id (fz2 bl y) = true) (hl : ds.length = i.size) (ho : off + i.size ≤ row.length) (dst : Option Nat) (hdst : ∀ d, dst = some d → d < nt) (cv : Value) :
    ∃ w' h' hd', (Instr.storeAt t xv vv).run P w = .ok () w' ∧ Rl nt w0 h0 (updF fr dst .any) (updB bl ((id, some (.rows ver e sz (rows.set ii (setAt row off ds)))) :: fz2 bl y)) (a.put dst cv) w' h' hd' := by
  have hk : y.known = true := by
    cases y <;> first | rfl | (simp [V.cells, mapM', toD1, toD0] at hds)
  have hb' : updB bl (fz2 bl y) id = some (.rows ver e sz rows) := by
    have hn := notIn_of hni
    unfold updB
    rcases lk_mem (fz2 bl y) (bl id) id with q | ⟨p, q1, q2, q3⟩
    · rw [q]; exact hb
    · exact absurd q2.symm (fun e => hn p q1 (by simp [e]))
  obtain ⟨b, c, g1, g2, g3, g4, g5⟩ : ∃ b c, bl id = some b ∧ b.ver? = some c ∧ ver ≤ c ∧ xv.oneCell' = true ∧ ∀ e size rows, b = .rows ver e size rows → ∃ g n c, hd id = .slice (some ⟨g, 0, none⟩) n c ∧ xv = .pointer (some ⟨g, ii * size + off, none⟩) := hx
  rw [hb] at g1
  cases g1
  have hx' : R3 (hFz w h hd (fz2 bl y)) hd (updB bl (fz2 bl y)) xv (.orow id ver ii off) := ⟨_, c, hb', g2, g3, g4, g5⟩
  obtain ⟨w', hd', q1, q2⟩ := storeRow_ok0 (r.freeze _ (fz2_ok y)) hi hx' hb' hrow (by
    intro j d hj
    obtain ⟨z, z1, z2⟩ := mapM'_back hds hj
    obtain ⟨c1, c2⟩ := cells_ok hy hk
    have := toD1_ok r (fz2 bl y) (c2 j z z1).1 z2 (fun p hp => by
      cases y with
      | agg cs => exact List.mem_flatMap.2 ⟨z, List.mem_of_getElem? z1, hp⟩
      | _ =>
        have hz : z = _ := (List.mem_singleton.1 (List.mem_of_getElem? z1))
        rw [hz] at hp; exact hp)
    exact ⟨this.2, this.1, (c2 j z z1).2⟩) ((cells_ok hy hk).1.trans (mapM'_some hds).1) hl ho dst hdst cv
  exact ⟨w', _, hd', q1, by rw [updB_cons]; exact q2⟩

/-- a part of a struct -/
theorem part_run {t : TypeId} {i : TypeInfo} {b : Bool} (hb : isAggT P t = some b) (hi : P.info? t = some i) {arr : Array Value} {cs : List V} {off : Nat} (hl : arr.size = cs.length) (hr : ∀ j x, cs[j]? = some x → R1 h hd bl (arr.getD j undef) x ∧ (arr.getD j undef).oneCell' = true) {v : V} {wr : List (Nat × Option Blk)}
    (ha : (if b then (if off + i.size ≤ cs.length then some (V.agg ((cs.drop off).take i.size), ([] : List (Nat × Option Blk))) else none) else cs[off]?.map fun v => (v, [])) = some (v, wr)) :
    wr = [] ∧ ∃ cv, (part t arr off).run P w = .ok cv w ∧ R3 h hd bl cv v := by
  unfold part
  rw [Sem.run_bind, run_isAgg hb]
  cases b with
  | true =>
    simp only [if_true] at ha
    split at ha
    · rename_i hlen
      cases ha
      refine ⟨rfl, .agg (arr.extract off (off + i.size)), by simp [Result.andThen, run_sizeOf hi], _, rfl, by simp; omega, fun j x hx => ?_⟩
      rw [List.getElem?_take] at hx
      split at hx
      · rename_i hj
        rw [List.getElem?_drop] at hx
        have hlt : off + j < arr.size := by rw [hl]; exact (List.getElem?_eq_some_iff.1 hx).1
        have e : (arr.extract off (off + i.size)).getD j undef = arr.getD (off + j) undef := by
          simp only [Array.getD_eq_getD_getElem?, Array.getElem?_extract]
          rw [if_pos (by omega)]
        rw [e]; exact hr _ _ hx
      · cases hx
    · cases ha
  | false =>
    simp only [Bool.false_eq_true, if_false, Option.map_eq_some_iff] at ha
    obtain ⟨y, hy, ha⟩ := ha
    cases ha
    have hlt : off < arr.size := by rw [hl]; exact (List.getElem?_eq_some_iff.1 hy).1
    refine ⟨rfl, arr[off], by simp [Result.andThen, hlt], R3.of2 (R2.of1 ?_)⟩
    have := (hr _ _ hy).1
    simpa [hlt] using this

/-- a struct that is built -/
theorem fill_ok (place : Nat → Option (Nat × Nat)) : ∀ (ps : List (Nat × Value)) (qs : List (Nat × Nat × V)) (arr : Array Value) (cs cs' : List V), arr.size = cs.length →
    (∀ j x, cs[j]? = some x → R1 h hd bl (arr.getD j undef) x ∧ (arr.getD j undef).oneCell' = true) → ps.length = qs.length →
    (∀ (j : Nat) (p : Nat × Value) (q : Nat × Nat × V), ps[j]? = some p → qs[j]? = some q → place p.1 = some (q.1, q.2.1) ∧ R3 h hd bl p.2 q.2.2) → fillV cs qs = some cs' →
    ∃ arr', Instr.fill place arr ps = some arr' ∧ arr'.size = cs'.length ∧ ∀ j x, cs'[j]? = some x → R1 h hd bl (arr'.getD j undef) x ∧ (arr'.getD j undef).oneCell' = true := by
  intro ps
  induction ps with
  | nil =>
    intro qs arr cs cs' hl hr hlen hp e
    obtain rfl : qs = [] := List.eq_nil_of_length_eq_zero (by simpa using hlen.symm)
    simp only [fillV, Option.some.injEq] at e
    subst e
    exact ⟨arr, rfl, hl, hr⟩
  | cons p ps ih =>
    intro qs arr cs cs' hl hr hlen hp e
    match qs, hlen with
    | (off, size, v) :: qs, hlen =>
      obtain ⟨h1, h2⟩ := hp 0 p _ rfl rfl
      simp only [fillV] at e
      split at e
      · rename_i hc
        obtain ⟨c1, c2, c3⟩ := hc
        have c1 : v.cells.length = size := c1
        have c2 : off + size ≤ cs.length := c2
        have c3 : v.known = true := c3
        have h2 : R3 h hd bl p.2 v := h2
        · obtain ⟨d1, d2⟩ := cells_ok h2 c3
          have hsz : p.2.cells.size = size := by omega
          -- the cells behind the fold
          have hfold : ∀ (l : List Value) (n : Nat) (b : Array Value), ((l.zipIdx n).foldl (fun cs (x : Value × Nat) => cs.setIfInBounds (off + x.2) x.1) b).size = b.size ∧ ∀ j, ((l.zipIdx n).foldl (fun cs (x : Value × Nat) => cs.setIfInBounds (off + x.2) x.1) b)[j]? = if off + n ≤ j ∧ j < off + n + l.length ∧ j < b.size then l[j - (off + n)]? else b[j]? := by
            intro l
            induction l with
            | nil => intro n b; refine ⟨rfl, fun j => ?_⟩; rw [if_neg (by simp; omega)]; rfl
            | cons u l ihl =>
              intro n b
              simp only [List.zipIdx_cons, List.foldl_cons]
              obtain ⟨s1, s2⟩ := ihl (n + 1) (b.setIfInBounds (off + n) u)
              refine ⟨by simpa using s1, fun j => ?_⟩
              rw [s2]
              by_cases hj : j = off + n
              · subst hj
                rw [if_neg (by omega)]
                by_cases hb : off + n < b.size
                · rw [if_pos ⟨by omega, by simp, hb⟩]; simp [hb]
                · rw [if_neg (by omega)]; simp [hb]
              · have e1 : (b.setIfInBounds (off + n) u)[j]? = b[j]? := Array.getElem?_setIfInBounds_ne (by omega)
                rw [e1]
                simp only [Array.size_setIfInBounds, List.length_cons]
                by_cases hq : off + (n + 1) ≤ j ∧ j < off + (n + 1) + l.length ∧ j < b.size
                · rw [if_pos hq, if_pos (by omega)]
                  have : j - (off + n) = (j - (off + (n + 1))) + 1 := by omega
                  rw [this, List.getElem?_cons_succ]
                · rw [if_neg hq, if_neg (by omega)]
          obtain ⟨f1, f2⟩ := hfold p.2.cells.toList 0 arr
          simp only [Nat.add_zero] at f2
          obtain ⟨arr', g1, g2, g3⟩ := ih qs ((p.2.cells.toList.zipIdx 0).foldl (fun cs (x : Value × Nat) => cs.setIfInBounds (off + x.2) x.1) arr) (setAt cs off v.cells) cs' (by rw [f1, setAt_len, hl]) (by
              intro j x hx
              rw [setAt_get cs off v.cells j (by omega)] at hx
              have hgd : ((p.2.cells.toList.zipIdx 0).foldl (fun cs (x : Value × Nat) => cs.setIfInBounds (off + x.2) x.1) arr).getD j undef = if off ≤ j ∧ j < off + v.cells.length then p.2.cells.getD (j - off) undef else arr.getD j undef := by
                simp only [Array.getD_eq_getD_getElem?]
                rw [f2]
                by_cases hq : off ≤ j ∧ j < off + v.cells.length
                · rw [if_pos (by simp; omega), if_pos hq]; simp
                · rw [if_neg (by simp; omega), if_neg hq]
              rw [hgd]
              split at hx
              · rename_i hq; rw [if_pos hq]; exact d2 _ _ hx
              · rename_i hq; rw [if_neg hq]; exact hr _ _ hx) (by simpa using hlen) (fun j p' q' hp' hq' => hp (j + 1) p' q' (by simpa using hp') (by simpa using hq')) e
          refine ⟨arr', ?_, g2, g3⟩
          simp only [Instr.fill, h1]
          rw [if_neg (by simp; omega)]
          have : p.2.cells.zipIdx.foldl (fun cs (x : Value × Nat) => cs.setIfInBounds (off + x.2) x.1) arr = (p.2.cells.toList.zipIdx 0).foldl (fun cs (x : Value × Nat) => cs.setIfInBounds (off + x.2) x.1) arr := by
            rw [← Array.foldl_toList]; simp
          rw [this]
          exact g1
      · cases e

theorem mapM_fields {fs : Array Field} (hf : fs.toList.all (fun f => (P.info? f.type).isSome) = true) : (fs.mapM fun f => (Prod.mk f.offset <$> sizeOf f.type : Sem (Nat × Nat))).run P w = .ok (fs.map fun f => (f.offset, P.cellsOf f.type)) w := by
  have key : ∀ (l : List Field), l.all (fun f => (P.info? f.type).isSome) = true → (l.mapM fun f => (Prod.mk f.offset <$> sizeOf f.type : Sem (Nat × Nat))).run P w = .ok (l.map fun f => (f.offset, P.cellsOf f.type)) w := by
    intro l
    induction l with
    | nil => intro _; rfl
    | cons f l ih =>
      intro h
      simp only [List.all_cons, Bool.and_eq_true] at h
      obtain ⟨i, hi⟩ := Option.isSome_iff_exists.1 h.1
      simp [List.mapM_cons, run_sizeOf hi, ih h.2, Program.cellsOf, hi]
  obtain ⟨l⟩ := fs
  have := key l hf
  simp only [List.mapM_toArray, Sem.run_map, this, Result.andThen_ok, List.map_toArray]
/-- build -/
theorem build_run (r : Rl nt w0 h0 fr bl a w h hd) {t : TypeId} {i : TypeInfo} {z : Value} {fs : Array Field} {zs : List V} (hi : P.info? t = some i) (hu : P.underlying t = some (.struct fs)) (hz : i.zero = some z) (hzs : mapM' lowV1 z.cells.toList = some zs)
    (hf : fs.toList.all (fun f => (P.info? f.type).isSome) = true) {ps : List (Nat × Operand)} {qs : List (Nat × Nat × Opd)}
    (hp : mapM' (fun (p : Nat × Operand) => match fs[p.1]?, lowX p.2 with
          | some f, some x => (P.info? f.type).map fun j => (f.offset, j.size, x)
          | _, _ => none) ps = some qs) {cs : List V} (ha : fillV zs (qs.map fun (o, s, x) => (o, s, evo fr x)) = some cs) :
    ∃ cv, (Instr.build t (ps.map fun (i, x) => (i, a.eval x)).toArray).run P w = .ok cv w ∧ R3 h hd bl cv (.agg cs) := by
  obtain ⟨z1, z2⟩ := lowCells_ok (h := h) (hd := hd) (bl := bl) hzs
  obtain ⟨m1, m2⟩ := mapM'_some hp
  obtain ⟨arr', g1, g2, g3⟩ := fill_ok (h := h) (hd := hd) (bl := bl) (fun i => (fs.map fun f => (f.offset, P.cellsOf f.type))[i]?) (ps.map fun x => (x.1, a.eval x.2)) (qs.map fun (o, s, x) => (o, s, evo fr x)) z.cells zs cs z1 z2 (by simpa using m1) (by
    intro j p q hp' hq'
    rw [List.getElem?_map, Option.map_eq_some_iff] at hp' hq'
    obtain ⟨p0, p1, rfl⟩ := hp'
    obtain ⟨q0, q1, rfl⟩ := hq'
    obtain ⟨y, y1, y2⟩ := m2 j p0 p1
    rw [q1] at y1
    cases y1
    split at y2
    · rename_i f x hfx hx
      cases hj : P.info? f.type with
      | none => simp [hj] at y2
      | some k =>
        simp only [hj, Option.map_some, Option.some.injEq] at y2
        subst y2
        refine ⟨?_, lowX_ok r.frame hx⟩
        simp [hfx, Program.cellsOf, hj]
    · cases y2) ha
  refine ⟨.agg arr', ?_, arr', rfl, g2, g3⟩
  simp only [Array.getElem?_map] at g1
  simp [Instr.build, zeroValue, run_typeInfo hi, hz, run_underlying hu, Result.andThen, mapM_fields hf, g1]

/-- a slice of given elements -/
theorem fillRows_ok (size : Nat) (hsz : 0 < size) : ∀ (ps : List (Nat × Value)) (qs : List (Nat × V)) (arr : Array Value) (rows rows' : List (List D)) {bl : Nat → Option Blk} {hh : Hp} (R : Value → V → Prop) (hR : ∀ (v : Value) (x : V) (row : List D), R v x → mapM' (toD1 bl) x.cells = some row → v.cells.size = row.length ∧ ∀ (j : Nat) (d : D), row[j]? = some d → d.atom = true ∧ Reads hh (v.cells.getD j undef) d ∧ (v.cells.getD j undef).oneCell' = true),
    arr.size = rows.length * size → RowsIn hh size rows arr.toList → (∀ u ∈ arr.toList, u.oneCell' = true) → ps.length = qs.length →
    (∀ (j : Nat) (p : Nat × Value) (q : Nat × V), ps[j]? = some p → qs[j]? = some q → p.1 = q.1 ∧ R p.2 q.2) → fillRows bl size rows qs = some rows' →
    ∃ arr', Instr.fill (fun i => some (i * size, size)) arr ps = some arr' ∧ arr'.size = rows'.length * size ∧ rows'.length = rows.length ∧ RowsIn hh size rows' arr'.toList ∧ ∀ u ∈ arr'.toList, u.oneCell' = true := by
  intro ps
  induction ps with
  | nil =>
    intro qs arr rows rows' bl hh R hR hl hr ho hlen hp e
    obtain rfl : qs = [] := List.eq_nil_of_length_eq_zero (by simpa using hlen.symm)
    simp only [fillRows, Option.some.injEq] at e
    subst e
    exact ⟨arr, rfl, hl, rfl, hr, ho⟩
  | cons p ps ih =>
    intro qs arr rows rows' bl hh R hR hl hr ho hlen hp e
    match qs, hlen with
    | (i, v) :: qs, hlen =>
      obtain ⟨h1, h2⟩ := hp 0 p _ rfl rfl
      simp only [fillRows] at e
      cases hm : mapM' (toD1 bl) v.cells with
      | none => simp [hm] at e
      | some row =>
        simp only [hm] at e
        split at e
        · rename_i hc
          obtain ⟨c1, c2⟩ := hc
          obtain ⟨d1, d2⟩ := hR _ _ _ h2 hm
          have hpi : p.1 = i := h1
          have hfitN : i * size + size ≤ arr.size := by
            have : (i + 1) * size ≤ rows.length * size := Nat.mul_le_mul_right _ (by omega)
            rw [Nat.add_mul] at this; omega
          have hfold : ∀ (l : List Value) (n : Nat) (b : Array Value), ((l.zipIdx n).foldl (fun cs (x : Value × Nat) => cs.setIfInBounds (i * size + x.2) x.1) b).size = b.size ∧ ∀ j, ((l.zipIdx n).foldl (fun cs (x : Value × Nat) => cs.setIfInBounds (i * size + x.2) x.1) b)[j]? = if i * size + n ≤ j ∧ j < i * size + n + l.length ∧ j < b.size then l[j - (i * size + n)]? else b[j]? := by
            intro l
            induction l with
            | nil => intro n b; refine ⟨rfl, fun j => ?_⟩; rw [if_neg (by simp; omega)]; rfl
            | cons u l ihl =>
              intro n b
              simp only [List.zipIdx_cons, List.foldl_cons]
              obtain ⟨s1, s2⟩ := ihl (n + 1) (b.setIfInBounds (i * size + n) u)
              refine ⟨by simpa using s1, fun j => ?_⟩
              rw [s2]
              by_cases hj : j = i * size + n
              · subst hj
                rw [if_neg (by omega)]
                by_cases hb : i * size + n < b.size
                · rw [if_pos ⟨by omega, by simp, hb⟩]; simp [hb]
                · rw [if_neg (by omega)]; simp [hb]
              · have e1 : (b.setIfInBounds (i * size + n) u)[j]? = b[j]? := Array.getElem?_setIfInBounds_ne (by omega)
                rw [e1]
                simp only [Array.size_setIfInBounds, List.length_cons]
                by_cases hq : i * size + (n + 1) ≤ j ∧ j < i * size + (n + 1) + l.length ∧ j < b.size
                · rw [if_pos hq, if_pos (by omega)]
                  have : j - (i * size + n) = (j - (i * size + (n + 1))) + 1 := by omega
                  rw [this, List.getElem?_cons_succ]
                · rw [if_neg hq, if_neg (by omega)]
          obtain ⟨f1, f2⟩ := hfold p.2.cells.toList 0 arr
          simp only [Nat.add_zero] at f2
          have hps : p.2.cells.size = size := by omega
          have hgetE : ∀ j, ((p.2.cells.toList.zipIdx 0).foldl (fun cs (x : Value × Nat) => cs.setIfInBounds (i * size + x.2) x.1) arr).toList[j]? = if i * size ≤ j ∧ j < i * size + size then p.2.cells.toList[j - i * size]? else arr.toList[j]? := by
            intro j
            rw [Array.getElem?_toList, f2]
            by_cases hq : i * size ≤ j ∧ j < i * size + size
            · rw [if_pos (by simp; omega), if_pos hq]
            · rw [if_neg (by simp; omega), if_neg hq]; simp
          obtain ⟨arr', g1, g2, g3, g4, g5⟩ := ih qs ((p.2.cells.toList.zipIdx 0).foldl (fun cs (x : Value × Nat) => cs.setIfInBounds (i * size + x.2) x.1) arr) (rows.set i row) rows' R hR (by rw [f1, List.length_set, hl]) (by
              intro i' row' hi'
              rw [List.getElem?_set] at hi'
              split at hi'
              · rename_i heq
                subst heq
                simp only [c2, if_true, Option.some.injEq] at hi'
                subst hi'
                refine ⟨c1, fun j x hx => ?_⟩
                have hj : j < size := by rw [← c1]; exact (List.getElem?_eq_some_iff.1 hx).1
                obtain ⟨e1, e2, e3⟩ := d2 j x hx
                refine ⟨e1, _, ?_, e2⟩
                rw [hgetE, if_pos (by omega)]
                have : i * size + j - i * size = j := by omega
                rw [this]
                have : j < p.2.cells.size := by omega
                simp [this]
              · rename_i hne
                obtain ⟨r1, r2⟩ := hr i' row' hi'
                refine ⟨r1, fun j x hx => ?_⟩
                obtain ⟨r3, u, r4, r5⟩ := r2 j x hx
                refine ⟨r3, u, ?_, r5⟩
                have hj : j < size := by rw [← r1]; exact (List.getElem?_eq_some_iff.1 hx).1
                rw [hgetE, if_neg]
                · exact r4
                · rintro ⟨g1, g2⟩
                  rcases Nat.lt_or_gt_of_ne hne with hlt | hlt
                  · have : (i + 1) * size ≤ i' * size := Nat.mul_le_mul_right _ (by omega)
                    rw [Nat.add_mul] at this; omega
                  · have : (i' + 1) * size ≤ i * size := Nat.mul_le_mul_right _ (by omega)
                    rw [Nat.add_mul] at this; omega) (by
              intro u hu
              obtain ⟨j, hj⟩ := List.mem_iff_getElem?.1 hu
              rw [hgetE] at hj
              split at hj
              · rename_i hq
                have hlt : j - i * size < row.length := by omega
                have hlt2 : j - i * size < p.2.cells.size := by omega
                have := (d2 (j - i * size) (row[j - i * size]'hlt) (by simp)).2.2
                have : p.2.cells.getD (j - i * size) undef = u := by
                  simp only [Array.getElem?_toList] at hj
                  simp [hj]
                rw [← this]; assumption
              · exact ho u (List.mem_of_getElem? hj)) (by simpa using hlen) (fun j p' q' hp' hq' => hp (j + 1) p' q' (by simpa using hp') (by simpa using hq')) e
          refine ⟨arr', ?_, g2, by rw [g3, List.length_set], g4, g5⟩
          simp only [Instr.fill, hpi]
          rw [if_neg (by simp; omega)]
          have : p.2.cells.zipIdx.foldl (fun cs (x : Value × Nat) => cs.setIfInBounds (i * size + x.2) x.1) arr = (p.2.cells.toList.zipIdx 0).foldl (fun cs (x : Value × Nat) => cs.setIfInBounds (i * size + x.2) x.1) arr := by
            rw [← Array.foldl_toList]; simp
          rw [this]
          exact g1
        · cases e
end
end Vm
end Go.Proofs.Ytdjfaepokfdihaa
