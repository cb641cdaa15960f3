/- Each operation of the small machine is the model's (fourth part: slices, structs, boxes). -/
import Derived.Test.YtdjfaepokfdihaaVmOpsC
set_option linter.unusedVariables false
namespace Go.Proofs.Ytdjfaepokfdihaa
namespace Vm
open Go.RowKit

section
variable {P : Program} {nt : Nat} {w0 w : World} {h0 h : Hp} {fr : Nat → V} {bl : Nat → Option Blk} {a : Act} {hd : Nat → Value}

theorem ownsRow_up {base base' : Nat} {e size n : Nat} {v : Value} {xs : List Value} (h : w.ownsRow base e size v n xs) (hb : base' ≤ base) : w.ownsRow base' e size v n xs := ⟨h.1, by
  rcases h.2 with q | ⟨g, cap, cur, q1, q2, q3⟩
  · exact .inl q
  · exact .inr ⟨g, cap, cur, q1, by omega, q3⟩⟩

/-- the cells of a slice's rows, one behind the other -/
theorem rows_cells {h : Hp} {v : Value} {rows : List (List D)} {size : Nat} (r : Reads h v (.sl rows)) (hs : ∀ row ∈ rows, row.length = size) (l : h.le (hw w)) :
    ∃ ao c news, v = .slice ao rows.length c ∧ (ao = none → rows.length = 0 ∧ c = 0) ∧ news.length = rows.length * size ∧ (∀ ad, ao = some ad → ∀ (j : Nat) (u : Value), news[j]? = some u → w.cell? (ad.add j) = some u) ∧ (∀ u ∈ news, u.oneCell' = true) ∧ RowsIn h size rows news := by
  cases r with
  | sl0 a c h0 => exact ⟨a, c, [], rfl, fun e => ⟨rfl, h0 e⟩, by simp, fun ad _ j u hu => by simp at hu, by simp, fun i row hi => by simp at hi⟩
  | sl b off c k n rows cv hn hc hk hm hr ho =>
    subst hn
    by_cases hz : rows.length = 0
    · obtain rfl : rows = [] := List.eq_nil_of_length_eq_zero hz
      exact ⟨_, c, [], rfl, fun e => (by cases e), by simp, fun ad _ j u hu => by simp at hu, by simp, fun i row hi => by simp at hi⟩
    have hks : k = size := by
      have h0 : rows[0]? = some rows[0] := by simp
      rw [← hk 0 _ h0]; exact hs _ (List.getElem_mem _)
    subst hks
    have hidx : ∀ j, j < rows.length * k → ∃ row x, rows[j / k]? = some row ∧ row[j % k]? = some x ∧ j / k * k + j % k = j ∧ j % k < k := by
      intro j hj
      have hk0 : 0 < k := Nat.pos_of_ne_zero fun e => by subst e; simp at hj
      have h1 : j / k < rows.length := (Nat.div_lt_iff_lt_mul hk0).2 hj
      have h2 : j % k < k := Nat.mod_lt _ hk0
      have h3 : rows[j / k]? = some rows[j / k] := by simp [h1]
      have h4 : rows[j / k].length = k := hk _ _ h3
      exact ⟨_, rows[j / k][j % k]'(by omega), h3, by simp, by rw [Nat.mul_comm]; exact Nat.div_add_mod j k, h2⟩
    refine ⟨_, c, (List.range (rows.length * k)).map fun j => cv (j / k) (j % k), rfl, fun e => (by cases e), by simp, ?_, ?_, ?_⟩
    · intro ad e j u hu
      cases e
      have hj : j < rows.length * k := by simpa using (List.getElem?_eq_some_iff.1 hu).1
      have : u = cv (j / k) (j % k) := by rw [List.getElem?_map, List.getElem?_range hj] at hu; simpa using hu.symm
      subst this
      obtain ⟨row, x, q1, q2, q3, q4⟩ := hidx j hj
      rw [Addr.add_lit, cell_hw]
      have := Hp.cell_le l (hm _ _ _ _ q1 q2)
      rwa [Nat.add_assoc, q3] at this
    · intro u hu
      obtain ⟨j, hj, rfl⟩ := List.mem_map.1 hu
      obtain ⟨row, x, q1, q2, q3, q4⟩ := hidx j (by simpa using hj)
      exact ho _ _ _ _ q1 q2
    · intro i row hi
      refine ⟨hk i row hi, fun j x hx => ?_⟩
      have hi' := (List.getElem?_eq_some_iff.1 hi).1
      have hj' : j < k := by rw [← hk i row hi]; exact (List.getElem?_eq_some_iff.1 hx).1
      have hlt : i * k + j < rows.length * k := by
        have : (i + 1) * k ≤ rows.length * k := Nat.mul_le_mul_right _ (by omega)
        rw [Nat.add_mul] at this; omega
      refine ⟨?_, cv i j, ?_, hr _ _ _ _ hi hx⟩
      · have := hr _ _ _ _ hi hx
        have h2 := ho _ _ _ _ hi hx
        generalize cv i j = u at this h2
        cases this <;> first | rfl | simp [Value.oneCell'] at h2
      · rw [List.getElem?_map, List.getElem?_range hlt]
        have e1 : (i * k + j) / k = i := by rw [Nat.mul_comm, Nat.mul_add_div (by omega)]; simp [Nat.div_eq_of_lt hj']
        have e2 : (i * k + j) % k = j := by rw [Nat.mul_comm, Nat.mul_add_mod]; exact Nat.mod_eq_of_lt hj'
        simp [e1, e2]

theorem RowsIn.append {size : Nat} {rows new : List (List D)} {xs ys : List Value} (h1 : RowsIn h size rows xs) (h2 : RowsIn h size new ys) (hl : xs.length = rows.length * size) : RowsIn h size (rows ++ new) (xs ++ ys) := by
  intro i row hi
  by_cases hc : i < rows.length
  · rw [List.getElem?_append_left hc] at hi
    refine ⟨(h1 i row hi).1, fun j x hx => ⟨((h1 i row hi).2 j x hx).1, ?_⟩⟩
    obtain ⟨u, q1, q2⟩ := ((h1 i row hi).2 j x hx).2
    exact ⟨u, by rw [List.getElem?_append_left (List.getElem?_eq_some_iff.1 q1).1]; exact q1, q2⟩
  · rw [List.getElem?_append_right (by omega)] at hi
    refine ⟨(h2 _ row hi).1, fun j x hx => ⟨((h2 _ row hi).2 j x hx).1, ?_⟩⟩
    obtain ⟨u, q1, q2⟩ := ((h2 _ row hi).2 j x hx).2
    refine ⟨u, ?_, q2⟩
    have e : i * size + j = xs.length + ((i - rows.length) * size + j) := by rw [hl, Nat.sub_mul]; have := Nat.mul_le_mul_right size (Nat.le_of_not_lt hc); omega
    rw [e, List.getElem?_append_right (by omega)]
    simpa using q1

/-- where an append ends -/
theorem append_where {base : Nat} {t ty e : TypeId} {i : TypeInfo} {z : Value} (ht : P.underlying t = some (.slice e)) (hi : P.info? e = some i) (hz : i.zero = some z)
    {v : Value} {n : Nat} {xs : List Value} (hown : w.ownsRow base e i.size v n xs) {ad : Addr} {m c : Nat} {news : List Value} (hl : news.length = m * i.size) (hnews : ∀ (j : Nat) (u : Value), news[j]? = some u → w.cell? (ad.add j) = some u) (h1 : ∀ u ∈ news, u.oneCell' = true)
    (h63 : n + m ≤ maxLen) (hbytes : (n + m) * i.bytes ≤ 140737488355328) {v' : Value} {w' : World} (hr : (Builtin.append_ #[t, t] ty #[v, .slice (some ad) m c]).run P w = .ok v' w')
    (hz' : m = 0 → v = .slice none 0 0 → v' = .slice none 0 0) : ∀ g, numOf v' = some g → w.heap.size ≤ g ∨ numOf v = some g := by
  intro g hg
  unfold maxLen at h63
  rcases hown.2 with ⟨rfl, rfl⟩ | ⟨g', cap, cur, rfl, hbg, hgg, hnc, hcm, hcs, htake⟩
  · by_cases hm : m = 0
    · rw [hz' hm rfl] at hg; cases hg
    · rw [run_append_nil (P := P) w t ty e i z ht hi hz ad m c news hl hnews (by omega) (by omega) (by have hb := hbytes; simp only [Nat.zero_add] at hb; omega)] at hr
      cases hr
      simp only [numOf, Option.some.injEq] at hg
      exact .inl (by omega)
  · by_cases hroom : n + m ≤ cap
    · rw [run_append_room (P := P) w t ty e i ht hi g' n cap cur hgg ad m c news hl hnews h1 hroom (by rw [hl, hcs, ← Nat.add_mul]; exact Nat.mul_le_mul_right _ hroom)] at hr
      cases hr
      exact .inr hg
    · rw [run_append_grow (P := P) w t ty e i z ht hi hz ⟨g', 0, none⟩ n cap xs hown.1 (hown.cells (g := g') rfl) ad m c news hl hnews (by omega) (by omega) (growslice_fits (by omega) hbytes)] at hr
      cases hr
      simp only [numOf, Option.some.injEq] at hg
      exact .inl (by omega)
theorem fz1_nil {x : V} (hx : ∀ id ver, x ≠ .own id ver) (hp : ∀ id off, x ≠ .ptr id off) : fz1 bl x = [] := by
  cases x with
  | own id ver => exact absurd rfl (hx id ver)
  | ptr id off => exact absurd rfl (hp id off)
  | _ => rfl
theorem hFz_nil : hFz w h hd [] = h := by funext g; simp [hFz]
/-- the rows that an append takes over -/
theorem src_ok (r : Rl nt w0 h0 fr bl a w h hd) {x : V} {xv : Value} (hx : R3 h hd bl xv x) {rows : List (List D)} (e : rowsOf bl x = some rows) {size : Nat} (hs : ∀ row ∈ rows, row.length = size) :
    ∃ ao c news, xv = .slice ao rows.length c ∧ (ao = none → rows.length = 0 ∧ c = 0) ∧ news.length = rows.length * size ∧ (∀ ad, ao = some ad → ∀ (j : Nat) (u : Value), news[j]? = some u → w.cell? (ad.add j) = some u) ∧ (∀ u ∈ news, u.oneCell' = true) ∧ RowsIn h size rows news := by
  obtain ⟨ao, c, news, rfl, n1, n2, n3, n4, n5⟩ := rows_cells (rowsOf_ok r hx e) hs (hFz_hw r _)
  refine ⟨ao, c, news, rfl, n1, n2, n3, n4, ?_⟩
  by_cases hown : ∃ id ver, x = .own id ver
  · obtain ⟨id, ver, rfl⟩ := hown
    obtain ⟨b, c', hb, hc, hle, h1, he⟩ : ∃ b c', bl id = some b ∧ b.ver? = some c' ∧ ver ≤ c' ∧ _ ∧ (ver = c' → _ = hd id) := hx
    cases b with
    | box cs => simp [rowsOf, hb] at e
    | fbox cs => simp [rowsOf, hb] at e
    | froz v' rows' =>
      have : fz1 bl (.own id ver) = [] := by simp [fz1, fz0, hb]
      rw [this, hFz_nil] at n5
      exact n5
    | rows v' e' s rows' =>
      simp only [rowsOf, hb] at e
      split at e
      · rename_i hv
        subst hv
        cases e
        simp only [Blk.ver?, Option.some.injEq] at hc
        have hh := he hc
        obtain ⟨q1, q2, ⟨xs, q3, q4⟩, q5⟩ := r.blk id _ hb
        intro i row hi
        refine ⟨(n5 i row hi).1, fun j y hy => ?_⟩
        obtain ⟨p1, u, p2, p3⟩ := (n5 i row hi).2 j y hy
        obtain ⟨_, u', p4, p5⟩ := (q4 i row hi).2 j y hy
        have hss : s = size := (q4 i row hi).1.symm.trans (n5 i row hi).1
        subst hss
        refine ⟨p1, u', ?_, p5⟩
        rcases q3.2 with ⟨q6, q7⟩ | ⟨g, cap, cur, q6, _⟩
        · have : rows = [] := List.eq_nil_of_length_eq_zero q7
          subst this; simp at hi
        · rw [q6] at hh
          cases hh
          have c1 := n3 _ rfl _ _ p2
          have c2 := q3.cells (g := g) (by rw [q6]; rfl) _ _ p4
          rw [c1] at c2
          cases c2
          exact p2
      · cases e
  · have : fz1 bl x = [] := fz1_nil (fun id ver he => hown ⟨id, ver, he⟩) (fun id off he => by rw [he] at e; simp [rowsOf] at e)
    rw [this, hFz_nil] at n5
    exact n5

/-- append -/
theorem append_run (r : Rl nt w0 h0 fr bl a w h hd) {t ty e : TypeId} {i : TypeInfo} {z : Value} (ht : P.underlying t = some (.slice e)) (hi : P.info? e = some i) (hz : i.zero = some z) (hzs : z.cells.size = i.size) (hsz : 0 < i.size) (hby : 0 < i.bytes)
    {C : Nat → List D → Option D} {site : Nat} {x y : Opd} {xv yv : Value} (hx : R3 h hd bl xv (evo fr x)) (hy : R3 h hd bl yv (evo fr y)) {v : V} {wr : List (Nat × Option Blk)} (dst : Option Nat) (hdst : ∀ d, dst = some d → d < nt)
    (ha : aop C site (evo fr) bl (.append e i.size i.bytes x y) = some (v, wr)) :
    ∃ cv w' hd', (Builtin.append_ #[t, t] ty #[xv, yv]).run P w = .ok cv w' ∧ Rl nt w0 h0 (updF fr dst v) (updB bl wr) (a.put dst cv) w' h hd' := by
  simp only [aop] at ha
  generalize evo fr x = xx at ha hx
  generalize evo fr y = yy at ha hy
  cases hro : rowsOf bl yy with
  | none => simp [hro] at ha
  | some new =>
    simp only [hro] at ha
    split at ha
    · rename_i hall
      have hs : ∀ row ∈ new, row.length = i.size := fun row hr => by simpa using List.all_eq_true.1 hall row hr
      obtain ⟨ao, c, news, rfl, n1, n2, n3, n4, n5'⟩ := src_ok r hy hro hs
      have hbase : w0.heap.size ≤ w.heap.size := r.below.size
      have run : ∀ (base : Nat) (v0 : Value) (n : Nat) (xs : List Value), base ≤ w.heap.size → w.ownsRow base e i.size v0 n xs → (n + new.length) * i.bytes ≤ 140737488355328 →
          ∃ v' w', (Builtin.append_ #[t, t] ty #[v0, .slice ao new.length c]).run P w = .ok v' w' ∧ w'.ownsRow base e i.size v' (n + new.length) (xs ++ news) ∧ w.grownBy w' v0.ownBlock ∧ ∀ g, numOf v' = some g → w.heap.size ≤ g ∨ numOf v0 = some g := by
        intro base v0 n xs hb hown hbytes
        have h63 : n + new.length ≤ maxLen := by
          have : n + new.length ≤ (n + new.length) * i.bytes := Nat.le_mul_of_pos_right _ hby
          unfold maxLen; omega
        cases ao with
        | some ad =>
          obtain ⟨v', w', h1, h2, h3, h4⟩ := run_append_own (P := P) w base t ty e i z i.size i.bytes ht hi hz rfl rfl hzs hsz v0 n xs hown ad new.length c news n2 (n3 ad rfl) n4 h63 hbytes hb
          exact ⟨v', w', h1, h2, h3, append_where ht hi hz hown n2 (n3 ad rfl) n4 h63 hbytes h1 fun hm hv => h4.2 ⟨hv, hm⟩⟩
        | none =>
          obtain ⟨hn, hc⟩ := n1 rfl
          subst hc
          have hnn : new = [] := List.eq_nil_of_length_eq_zero hn
          subst hnn
          obtain rfl : news = [] := List.eq_nil_of_length_eq_zero (by simpa using n2)
          refine ⟨v0, w, run_append_owned_none (P := P) (w := w) base t ty e i i.size ht hi v0 n xs hown, by simpa using hown, ⟨rfl, rfl, rfl, Nat.le_refl _, fun _ _ _ => rfl⟩, fun g hg => .inr hg⟩
      cases xx with
      | nil =>
        simp only at ha
        split at ha
        · rename_i hsite
          split at ha
          · rename_i hb
            cases ha
            obtain rfl : xv = .slice none 0 0 := hx
            obtain ⟨v', w', h1, h2, h3, _⟩ := run w.heap.size (.slice none 0 0) 0 [] (Nat.le_refl _) (World.ownsRow_nil w _ e i.size) (by simpa using hb)
            simp only [Nat.zero_add, List.nil_append] at h2
            have h63 : new.length ≤ maxLen := by
              have : new.length ≤ new.length * i.bytes := Nat.le_mul_of_pos_right _ hby
              unfold maxLen; omega
            obtain ⟨hd', hr⟩ := r.newRows (w' := w') dst hdst site hsite e i.size new v' news hsz h63 h3 h2 n5'
            exact ⟨v', w', hd', h1, hr⟩
          · cases ha
        · cases ha
      | own id ver =>
        obtain ⟨b, c', hb, hc, hle, h1, he⟩ : ∃ b c, bl id = some b ∧ b.ver? = some c ∧ ver ≤ c ∧ xv.oneCell' = true ∧ (ver = c → xv = hd id) := hx
        simp only [hb] at ha
        cases b with
        | rows v' e' s rows =>
          simp only at ha
          split at ha
          · rename_i hv
            obtain ⟨rfl, rfl, rfl, hbytes⟩ := hv
            cases ha
            simp only [Blk.ver?, Option.some.injEq] at hc
            obtain rfl := he hc
            obtain ⟨q1, q2, ⟨xs, q3, q4⟩, q5⟩ := r.blk id _ hb
            obtain ⟨v', w', g1, g2, g3, g4⟩ := run w0.heap.size (hd id) rows.length xs hbase q3 hbytes
            have h63 : (rows ++ new).length ≤ maxLen := by
              rw [List.length_append]
              have : rows.length + new.length ≤ (rows.length + new.length) * i.bytes := Nat.le_mul_of_pos_right _ hby
              unfold maxLen; omega
            obtain ⟨hd', hr⟩ := r.grow (w' := w') dst hdst id ver e' i.size rows (rows ++ new) hb v' (xs ++ news) h63 g3 (by rw [List.length_append]; exact g2) (q4.append n5' q3.1) g4
            exact ⟨v', w', hd', g1, hr⟩
          · cases ha
        | _ => cases ha
      | _ => cases ha
    · cases ha

/-- a row of zeros, its cells -/
theorem zeros_ok {z : Value} {zs : List V} {row : List D} (h1 : mapM' lowV1 z.cells.toList = some zs) (h2 : mapM' dOf zs = some row) :
    row.length = z.cells.size ∧ ∀ (j : Nat) (x : D), row[j]? = some x → x.atom = true ∧ Reads h (z.cells.getD j undef) x ∧ (z.cells.getD j undef).oneCell' = true := by
  obtain ⟨a1, a2⟩ := mapM'_some h1
  obtain ⟨b1, b2⟩ := mapM'_some h2
  refine ⟨by simp at a1; omega, fun j x hx => ?_⟩
  obtain ⟨y, q1, q2⟩ := mapM'_back h2 hx
  obtain ⟨v, q3, q4⟩ := mapM'_back h1 q1
  have hv : z.cells.getD j undef = v := by
    have : z.cells[j]? = some v := by simpa using q3
    simp [this]
  rw [hv]
  have hr := lowV1_ok (h := h) (hd := fun _ => undef) (bl := fun _ => none) q4
  cases y with
  | d y =>
    simp only [dOf] at q2
    split at q2
    · rename_i hat; cases q2; exact ⟨hat, hr.1.2, hr.2⟩
    · cases q2
  | nil => cases q2; rw [show v = _ from hr.1]; exact ⟨rfl, .sl0 none 0 (fun _ => rfl), rfl⟩
  | _ => cases q2

/-- rows of zeros -/
theorem rowsIn_zeros {z : Value} {row : List D} {size : Nat} (hz : z.cells.size = size) (hl : row.length = size) (hsz : 0 < size) (hr : ∀ (j : Nat) (x : D), row[j]? = some x → x.atom = true ∧ Reads h (z.cells.getD j undef) x ∧ (z.cells.getD j undef).oneCell' = true) (n : Nat)
    {xs : List Value} (hxs : ∀ j, j < n * size → xs[j]? = some (z.cells.getD (j % size) undef)) : RowsIn h size (List.replicate n row) xs := by
  intro i row' hi
  rw [List.getElem?_replicate] at hi
  split at hi
  · rename_i hin
    cases hi
    refine ⟨hl, fun j x hx => ?_⟩
    obtain ⟨q1, q2, q3⟩ := hr j x hx
    have hj : j < size := by rw [← hl]; exact (List.getElem?_eq_some_iff.1 hx).1
    refine ⟨q1, _, hxs _ ?_, ?_⟩
    · have : (i + 1) * size ≤ n * size := Nat.mul_le_mul_right _ (by omega)
      rw [Nat.add_mul] at this; omega
    · have : (i * size + j) % size = j := by rw [Nat.mul_comm, Nat.mul_add_mod]; exact Nat.mod_eq_of_lt hj
      rw [this]; exact q2
  · cases hi

/-- make -/
theorem make_run (r : Rl nt w0 h0 fr bl a w h hd) {t e : TypeId} {i : TypeInfo} {z : Value} {zs : List V} {row : List D} (ht : P.underlying t = some (.slice e)) (hi : P.info? e = some i) (hz : i.zero = some z) (hzs : z.cells.size = i.size) (hsz : 0 < i.size)
    (h1 : mapM' lowV1 z.cells.toList = some zs) (h2 : mapM' dOf zs = some row)
    {C : Nat → List D → Option D} {site : Nat} {x y : Opd} {xv yv : Value} (hx : R3 h hd bl xv (evo fr x)) (hy : R3 h hd bl yv (evo fr y)) {v : V} {wr : List (Nat × Option Blk)} (dst : Option Nat) (hdst : ∀ d, dst = some d → d < nt)
    (ha : aop C site (evo fr) bl (.makeSlice e i.size i.bytes row x y) = some (v, wr)) :
    ∃ cv w' hd', (Instr.makeSlice t xv yv).run P w = .ok cv w' ∧ Rl nt w0 h0 (updF fr dst v) (updB bl wr) (a.put dst cv) w' h hd' := by
  simp only [aop] at ha
  generalize evo fr x = xx at ha hx
  generalize evo fr y = yy at ha hy
  split at ha
  · rename_i hsite
    split at ha
    · rename_i k n k' m
      split at ha
      · rename_i hc
        obtain ⟨c1, c2, c3, c4⟩ := hc
        cases ha
        rw [inv_int hx, inv_int hy]
        have hrun := run_make (P := P) w t e i z ht hi hz k k' n m c1 c2 c3 c4
        obtain ⟨z1, z2⟩ := zeros_ok (h := h) h1 h2
        have hlen : (madeCells z.cells (m.toNat * i.size)).toList.take (n.toNat * i.size) = (List.range (n.toNat * i.size)).map fun j => z.cells.getD (j % i.size) undef := by
          apply List.ext_getElem?
          intro j
          have hle : n.toNat * i.size ≤ m.toNat * i.size := Nat.mul_le_mul_right _ (by omega)
          rw [List.getElem?_take]
          by_cases hj : j < n.toNat * i.size
          · rw [if_pos hj]
            have hlt : j % i.size < z.cells.size := by rw [hzs]; exact Nat.mod_lt _ hsz
            have hj' : j < m.toNat * i.size := by omega
            simp [madeCells, hj, hj', hzs]
            rw [getElem!_pos z.cells (j % i.size) hlt]
            simp [hlt]
          · rw [if_neg hj, List.getElem?_eq_none (by simp; omega)]
        obtain ⟨hd', hr⟩ := r.newRows (w' := w.alloc (.cells (madeCells z.cells (m.toNat * i.size)) e)) dst hdst site hsite e i.size (List.replicate n.toNat row) (.slice (some ⟨w.heap.size, 0, none⟩) n.toNat m.toNat)
          ((List.range (n.toNat * i.size)).map fun j => z.cells.getD (j % i.size) undef) hsz (by rw [List.length_replicate]; unfold maxLen; omega) (World.grownBy_alloc w _ none)
          (by
            rw [List.length_replicate]
            exact ⟨by simp, .inr ⟨w.heap.size, m.toNat, _, rfl, Nat.le_refl _, heap_alloc_new w _, by omega, by unfold maxLen; omega, size_madeCells _ _, hlen⟩⟩)
          (rowsIn_zeros hzs (z1.trans hzs) hsz z2 n.toNat fun j hj => by simp [hj])
        exact ⟨_, _, hd', hrun, hr⟩
      · cases ha
    · cases ha
  · cases ha

/-- a slice of a slice -/
theorem Reads.sub {h : Hp} {v : Value} {rows : List (List D)} (r : Reads h v (.sl rows)) {size : Nat} (hs : ∀ row ∈ rows, row.length = size) {l m : Nat} (h1 : l ≤ m) (h2 : m ≤ rows.length) :
    ∃ ao n c, v = .slice ao n c ∧ rows.length = n ∧ n ≤ c ∧ Reads h (.slice (if c = l then ao else ao.map (·.add (l * size))) (m - l) (c - l)) (.sl ((rows.take m).drop l)) := by
  cases r with
  | sl0 a c h0 =>
    obtain ⟨rfl, rfl⟩ : l = 0 ∧ m = 0 := by simp at h2; omega
    refine ⟨a, 0, c, rfl, rfl, Nat.zero_le _, ?_⟩
    simp only [List.take_nil, List.drop_nil, Nat.sub_zero, Nat.zero_mul]
    split
    · exact .sl0 a c h0
    · cases a with
      | none => exact .sl0 _ c (fun _ => h0 rfl)
      | some ad => exact .sl0 _ c (fun e => by cases e)
  | sl b off c k n rows cv hn hc hk hm hr ho =>
    subst hn
    refine ⟨_, _, c, rfl, rfl, hc, ?_⟩
    by_cases hml : m = l
    · subst hml
      have e : (rows.take m).drop m = [] := by simp
      rw [e, Nat.sub_self]
      refine .sl0 _ _ fun he => ?_
      split at he <;> cases he
    · have hks : k = size := by
        have h0 : rows[0]? = some (rows[0]'(by omega)) := by simp
        rw [← hk 0 _ h0]; exact hs _ (List.getElem_mem _)
      subst hks
      have hcl : ¬ c = l := by omega
      rw [if_neg hcl, Option.map_some, Addr.add_lit]
      have hget : ∀ (i : Nat) (row : List D), ((rows.take m).drop l)[i]? = some row → rows[l + i]? = some row := by
        intro i row hi
        rw [List.getElem?_drop, List.getElem?_take] at hi
        split at hi
        · exact hi
        · cases hi
      refine .sl b (off + l * k) (c - l) k (m - l) _ (fun i j => cv (l + i) j) (by simp; omega) (by simp; omega) (fun i row hi => hk _ _ (hget i row hi)) ?_ (fun i row j x hi hx => hr _ _ _ _ (hget i row hi) hx) (fun i row j x hi hx => ho _ _ _ _ (hget i row hi) hx)
      intro i row j x hi hx
      have := hm _ _ _ _ (hget i row hi) hx
      have e : off + l * k + i * k + j = off + (l + i) * k + j := by rw [Nat.add_mul]; omega
      rw [e]; exact this

theorem bound_run {k : IntKind} {q : Int} {y : Nat} {code : BoundsCode} (h1 : 0 ≤ q) (h2 : q ≤ y) : (Instr.sliceBound (.int k q) y code).run P w = .ok q.toNat w := by
  simp [Instr.sliceBound, asIntOf, h1, h2]
/-- what a bound says -/
def bnd (d : Int) : Option V → Option Int
  | none => some d
  | some (.d (.int _ x)) => some x
  | _ => none
theorem bounds_run {n c : Nat} {lov hiv : Option Value} {lo hi : Option V} (hlo : ∀ x, lo = some x → ∃ u, lov = some u ∧ R3 h hd bl u x) (hhi : ∀ x, hi = some x → ∃ u, hiv = some u ∧ R3 h hd bl u x) (nlo : lo = none → lov = none) (nhi : hi = none → hiv = none)
    {l m : Int} (e1 : bnd n hi = some m) (e2 : bnd 0 lo = some l) (h1 : 0 ≤ l) (h2 : l ≤ m) (h3 : m.toNat ≤ c) (isS : Bool) : (Instr.sliceBounds isS n c lov hiv none).run P w = .ok (l.toNat, m.toNat, c) w := by
  have H1 : (hiv = none ∧ m = n) ∨ ∃ k, hiv = some (.int k m) := by
    cases hi with
    | none => simp only [bnd, Option.some.injEq] at e1; exact .inl ⟨nhi rfl, e1.symm⟩
    | some x =>
      obtain ⟨u, hu, hr⟩ := hhi x rfl
      simp only [bnd] at e1
      split at e1
      · rename_i heq; cases heq
      · rename_i k q heq
        cases heq
        cases e1
        exact .inr ⟨k, hu.trans (by rw [inv_int hr])⟩
      · cases e1
  have H2 : (lov = none ∧ l = 0) ∨ ∃ k, lov = some (.int k l) := by
    cases lo with
    | none => simp only [bnd, Option.some.injEq] at e2; exact .inl ⟨nlo rfl, e2.symm⟩
    | some x =>
      obtain ⟨u, hu, hr⟩ := hlo x rfl
      simp only [bnd] at e2
      split at e2
      · rename_i heq; cases heq
      · rename_i k q heq
        cases heq
        cases e2
        exact .inr ⟨k, hu.trans (by rw [inv_int hr])⟩
      · cases e2
  rcases H1 with ⟨rfl, rfl⟩ | ⟨k1, rfl⟩ <;> rcases H2 with ⟨rfl, rfl⟩ | ⟨k2, rfl⟩
  · simp [Instr.sliceBounds]
  · have := bound_run (P := P) (w := w) (k := k2) (q := l) (y := n) (code := .sliceB) h1 (by omega)
    simp [Instr.sliceBounds, this]
  · have := fun code => bound_run (P := P) (w := w) (k := k1) (q := m) (y := c) (code := code) (by omega) (by omega)
    simp [Instr.sliceBounds, this]
  · have g1 := fun code => bound_run (P := P) (w := w) (k := k1) (q := m) (y := c) (code := code) (by omega) (by omega)
    have g2 := bound_run (P := P) (w := w) (k := k2) (q := l) (y := m.toNat) (code := .sliceB) h1 (by omega)
    simp [Instr.sliceBounds, g1, g2]
theorem sliceV_eq (bl : Nat → Option Blk) (size : Nat) (x : V) (lo hi : Option V) : sliceV bl size x lo hi =
    (match x, lo, hi with
    | .own id ver, none, some (.d (.int _ h)) => match bl id with
      | some (.rows v e size rows) => if ver = v ∧ 0 ≤ h ∧ h.toNat ≤ rows.length then some (.own id (ver + 1), [(id, some (.rows (ver + 1) e size (rows.take h.toNat)))]) else none
      | _ => none
    | x, lo, hi => match rowsOf bl x with
      | none => none
      | some rows => match bnd rows.length hi, bnd 0 lo with
        | some h, some l => if 0 ≤ l ∧ l ≤ h ∧ h.toNat ≤ rows.length ∧ sized size rows = true then some (.d (.sl ((rows.take h.toNat).drop l.toNat)), fz1 bl x) else none
        | _, _ => none) := rfl
end
end Vm
end Go.Proofs.Ytdjfaepokfdihaa
