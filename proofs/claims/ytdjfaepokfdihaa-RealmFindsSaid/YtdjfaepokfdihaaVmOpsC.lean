/- Each operation of the small machine is the model's (third part: numbers, structs, slices). -/
import Derived.Test.YtdjfaepokfdihaaVmOpsB
set_option linter.unusedVariables false
namespace Go.Proofs.Ytdjfaepokfdihaa
namespace Vm
open Go.RowKit

section
variable {P : Program} {nt : Nat} {w0 w : World} {h0 h : Hp} {fr : Nat → V} {bl : Nat → Option Blk} {a : Act} {hd : Nat → Value}

/-! numbers, strings, bools -/
def valD : D → Value
  | .int k n => .int k n
  | .bool b => .bool b
  | _ => undef
theorem valD_reads {d : D} (hd : (∃ k n, d = .int k n) ∨ ∃ b, d = .bool b) : Reads h (valD d) d ∧ d.atom = true := by
  rcases hd with ⟨k, n, rfl⟩ | ⟨b, rfl⟩
  · exact ⟨.int k n, rfl⟩
  · exact ⟨.bool b, rfl⟩
theorem intBin_run {op : BinOp} {t : TypeId} {x y : Operand} {k : IntKind} {m n : Int} {d : D} (e : intBin op k m n = some d) :
    ∃ cv, ((do eqGuard op t x y (.int k m) (.int k n); binOp op t (.int k m) (.int k n)) : Sem Value).run P w = .ok cv w ∧ Reads h cv d ∧ d.atom = true := by
  refine ⟨valD d, ?_, valD_reads ?_⟩
  · cases op <;> simp only [intBin, reduceCtorEq] at e
    case quo => split at e; cases e; rename_i hn; cases e; simp [eqGuard, binOp, Op.intDiv, hn, valD]
    case rem => split at e; cases e; rename_i hn; cases e; simp [eqGuard, binOp, Op.intDiv, hn, valD]
    all_goals (cases e; simp [eqGuard, binOp, Op.intArith, Op.intBits, Op.intCmp, valD])
  · cases op <;> simp only [intBin, reduceCtorEq] at e
    case quo => split at e; cases e; cases e; exact .inl ⟨_, _, rfl⟩
    case rem => split at e; cases e; cases e; exact .inl ⟨_, _, rfl⟩
    all_goals (cases e; first | exact .inl ⟨_, _, rfl⟩ | exact .inr ⟨_, rfl⟩)
theorem strBin_run {op : BinOp} {t : TypeId} {x y : Operand} {m n : ByteArray} {d : D} (e : strBin op m n = some d) :
    ∃ cv, ((do eqGuard op t x y (.string m) (.string n); binOp op t (.string m) (.string n)) : Sem Value).run P w = .ok cv w ∧ Reads h cv d ∧ d.atom = true := by
  refine ⟨valD d, ?_, valD_reads ?_⟩
  · cases op <;> simp only [strBin, reduceCtorEq] at e
    all_goals (cases e; simp [eqGuard, binOp, Op.stringOp, valD])
  · cases op <;> simp only [strBin, reduceCtorEq] at e
    all_goals (cases e; exact .inr ⟨_, rfl⟩)
theorem boolBin_run {op : BinOp} {t : TypeId} {x y : Operand} {m n : Bool} {d : D} (ht : P.underlying t = some .bool) (e : binV 1 op (.d (.bool m)) (.d (.bool n)) = some d) :
    ∃ cv, ((do eqGuard op t x y (.bool m) (.bool n); binOp op t (.bool m) (.bool n)) : Sem Value).run P w = .ok cv w ∧ Reads h cv d ∧ d.atom = true := by
  have he : ∀ k, (Op.equalIn (k + 1) t (.bool m) (.bool n)).run P w = .ok (m == n) w := fun k => by
    simp [Op.equalIn, run_underlying ht, Result.andThen]
  have he' : (Op.equal t (.bool m) (.bool n)).run P w = .ok (m == n) w := he 9999
  cases op <;> simp only [binV, reduceCtorEq] at e
  · obtain rfl := Option.some.inj e; exact ⟨_, by simp [eqGuard, binOp, he', Result.andThen], .bool _, rfl⟩
  · obtain rfl := Option.some.inj e; exact ⟨_, by simp [eqGuard, binOp, he', Result.andThen], .bool _, rfl⟩

theorem un_run {op : UnOp} {v : Value} {x : V} {d : D} (hx : R3 h hd bl v x) (e : unV op x = some d) : ∃ cv, (Op.unary op v).run P w = .ok cv w ∧ Reads h cv d ∧ d.atom = true := by
  unfold unV at e
  split at e
  · split at e
    · rename_i b
      rw [inv_bool hx]; cases e
      exact ⟨_, by simp [Op.unary], .bool _, rfl⟩
    · cases e
  · split at e
    · rename_i k n
      rw [inv_int hx]; cases e
      exact ⟨_, by simp [Op.unary, Op.intArith], .int _ _, rfl⟩
    · cases e
  · cases e

theorem maxg_run (args : List Value) : ∀ (k : IntKind) (x : Int) (l : List V) (d : D), l.length = args.length → (∀ j y, l[j]? = some y → R3 h hd bl (args.getD j undef) y) → maxg k x l = some d →
    ∃ cv, (args.foldlM Builtin.max2 (.int k x)).run P w = .ok cv w ∧ Reads h cv d ∧ d.atom = true := by
  induction args with
  | nil =>
    intro k x l d hl hr e
    obtain rfl : l = [] := List.eq_nil_of_length_eq_zero (by simpa using hl)
    simp only [maxg, Option.some.injEq] at e
    subst e
    exact ⟨.int k x, by simp, .int k x, rfl⟩
  | cons v r ih =>
    intro k x l d hl hr e
    match l, hl with
    | y :: l', hl =>
      have h0 := hr 0 y rfl
      unfold maxg at e
      split at e
      · rename_i heq; cases heq
      · rename_i k' y' l'' heq
        cases heq
        split at e
        · rename_i hk
          subst hk
          have : v = .int k y' := inv_int (by simpa using h0)
          subst this
          obtain ⟨cv, q1, q2⟩ := ih k _ l' d (by simpa using hl) (fun j z hz => by simpa using hr (j + 1) z (by simpa using hz)) e
          exact ⟨cv, by simp [Builtin.max2, q1, Result.andThen], q2⟩
        · cases e
      · cases e
theorem ming_run (args : List Value) : ∀ (k : IntKind) (x : Int) (l : List V) (d : D), l.length = args.length → (∀ j y, l[j]? = some y → R3 h hd bl (args.getD j undef) y) → ming k x l = some d →
    ∃ cv, (args.foldlM Builtin.min2 (.int k x)).run P w = .ok cv w ∧ Reads h cv d ∧ d.atom = true := by
  induction args with
  | nil =>
    intro k x l d hl hr e
    obtain rfl : l = [] := List.eq_nil_of_length_eq_zero (by simpa using hl)
    simp only [ming, Option.some.injEq] at e
    subst e
    exact ⟨.int k x, by simp, .int k x, rfl⟩
  | cons v r ih =>
    intro k x l d hl hr e
    match l, hl with
    | y :: l', hl =>
      have h0 := hr 0 y rfl
      unfold ming at e
      split at e
      · rename_i heq; cases heq
      · rename_i k' y' l'' heq
        cases heq
        split at e
        · rename_i hk
          subst hk
          have : v = .int k y' := inv_int (by simpa using h0)
          subst this
          obtain ⟨cv, q1, q2⟩ := ih k _ l' d (by simpa using hl) (fun j z hz => by simpa using hr (j + 1) z (by simpa using hz)) e
          exact ⟨cv, by simp [Builtin.min2, q1, Result.andThen], q2⟩
        · cases e
      · cases e
theorem max_run (args : List Value) (l : List V) (d : D) (hl : l.length = args.length) (hr : ∀ j y, l[j]? = some y → R3 h hd bl (args.getD j undef) y) (e : maxl l = some d) (ts : Array TypeId) (t : TypeId) :
    ∃ cv, (Builtin.max_ ts t args.toArray).run P w = .ok cv w ∧ Reads h cv d ∧ d.atom = true := by
  unfold maxl at e
  split at e
  · rename_i k x l'
    match args, hl with
    | v :: r, hl =>
      have : v = .int k x := inv_int (by simpa using hr 0 _ rfl)
      subst this
      simp only [Builtin.max_]
      exact maxg_run r k x l' d (by simpa using hl) (fun j z hz => by simpa using hr (j + 1) z (by simpa using hz)) e
  · cases e
theorem min_run (args : List Value) (l : List V) (d : D) (hl : l.length = args.length) (hr : ∀ j y, l[j]? = some y → R3 h hd bl (args.getD j undef) y) (e : minl l = some d) (ts : Array TypeId) (t : TypeId) :
    ∃ cv, (Builtin.min_ ts t args.toArray).run P w = .ok cv w ∧ Reads h cv d ∧ d.atom = true := by
  unfold minl at e
  split at e
  · rename_i k x l'
    match args, hl with
    | v :: r, hl =>
      have : v = .int k x := inv_int (by simpa using hr 0 _ rfl)
      subst this
      simp only [Builtin.min_]
      exact ming_run r k x l' d (by simpa using hl) (fun j z hz => by simpa using hr (j + 1) z (by simpa using hz)) e
  · cases e

/-! addresses -/
theorem field_run (r : Rl nt w0 h0 fr bl a w h hd) {s f : Nat} {fs : Array Field} {fd : Field} {i : TypeInfo} (hs : P.underlying s = some (.struct fs)) (hf : fs[f]? = some fd) (hi : P.info? fd.type = some i) (hz : i.size ≠ 0)
    {C : Nat → List D → Option D} {site : Nat} {x : Opd} {xv : Value} (hx : R3 h hd bl xv (evo fr x)) {v : V} {wr : List (Nat × Option Blk)} (ha : aop C site (evo fr) bl (.fieldAddr fd.offset x) = some (v, wr)) :
    wr = [] ∧ ∃ cv, (Instr.fieldAt s xv f).run P w = .ok cv w ∧ R3 h hd bl cv v := by
  have hrun : ∀ g o, (Instr.fieldAt s (.pointer (some ⟨g, o, none⟩)) f).run P w = .ok (.pointer (some ⟨g, o + fd.offset, none⟩)) w := fun g o => by
    simp [Instr.fieldAt, run_underlying hs, hf, Instr.sureAddr, fieldPlace, run_sizeOf hi, hz, Result.andThen, Addr.add_lit]
  simp only [aop] at ha
  generalize evo fr x = y at ha hx
  cases y with
  | ptr id o =>
    cases ha
    obtain ⟨q1, g, q2, rfl⟩ := inv_ptr hx
    exact ⟨rfl, _, hrun g o, q1, g, q2, rfl⟩
  | d y =>
    cases y with
    | ptr row o =>
      cases ha
      obtain ⟨_, hr⟩ : D.atom _ = true ∧ Reads h xv (.ptr row o) := hx
      cases hr with
      | ptr b o' off n row cv hn hm hr ho =>
        subst hn
        exact ⟨rfl, _, hrun b _, rfl, .ptr b o' (o + fd.offset) _ row cv (by omega) hm hr ho⟩
    | _ => cases ha
  | orow id ver ii o =>
    obtain ⟨b, c, hb, hc, hle, h1, he⟩ : ∃ b c, bl id = some b ∧ b.ver? = some c ∧ ver ≤ c ∧ xv.oneCell' = true ∧ ∀ e size rows, b = .rows ver e size rows → ∃ g n c, hd id = .slice (some ⟨g, 0, none⟩) n c ∧ xv = .pointer (some ⟨g, ii * size + o, none⟩) := hx
    simp only [hb] at ha
    cases b with
    | rows v' e s rows =>
      simp only at ha
      split at ha
      · rename_i hv
        subst hv
        cases ha
        obtain ⟨g, n, c', q1, rfl⟩ := he e s rows rfl
        refine ⟨rfl, _, hrun g _, _, _, hb, rfl, Nat.le_refl _, rfl, fun e' s' rows' eq => ?_⟩
        cases eq
        exact ⟨g, n, c', q1, by rw [Nat.add_assoc]⟩
      · cases ha
    | _ => cases ha
  | _ => cases ha

/-- a cell, or a struct, out of a row of cells -/
theorem index_run {t : TypeId} {e : TypeId} {i : TypeInfo} (ht : P.underlying t = some (.slice e)) (hi : P.info? e = some i) (r : Rl nt w0 h0 fr bl a w h hd) {C : Nat → List D → Option D} {site : Nat} {x j : Opd} {xv jv : Value} (hx : R3 h hd bl xv (evo fr x)) (hj : R3 h hd bl jv (evo fr j))
    {v : V} {wr : List (Nat × Option Blk)} (ha : aop C site (evo fr) bl (.indexAddr i.size x j) = some (v, wr)) : wr = [] ∧ ∃ cv, (Instr.indexAt t xv jv).run P w = .ok cv w ∧ R3 h hd bl cv v := by
  simp only [aop] at ha
  generalize evo fr x = y at ha hx
  generalize evo fr j = z at ha hj
  have hrun : ∀ (g o n c : Nat) (k : IntKind) (q : Int), 0 ≤ q → q.toNat < n → (Instr.indexAt t (.slice (some ⟨g, o, none⟩) n c) (.int k q)).run P w = .ok (.pointer (some ⟨g, o + q.toNat * i.size, none⟩)) w := fun g o n c k q h1 h2 => by
    have h3 : q < n := by omega
    simp [Instr.indexAt, run_underlying ht, asIntOf, h1, h3, run_sizeOf hi, Result.andThen, Addr.add_lit]
  have pure_ok : ∀ (k : IntKind) (q : Int) (rows : List (List D)) (row : List D), 0 ≤ q → rows[q.toNat]? = some row → row.length = i.size → Reads h xv (.sl rows) → jv = .int k q → ∃ cv, (Instr.indexAt t xv jv).run P w = .ok cv w ∧ R3 h hd bl cv (.d (.ptr row 0)) := by
    intro k q rows row h1 h2 h3 hr hq
    subst hq
    cases hr with
    | sl0 a c h0 => simp at h2
    | sl b off c kk n rows cv hn hc hk hm hr ho =>
      subst hn
      have hlt : q.toNat < rows.length := (List.getElem?_eq_some_iff.1 h2).1
      have hkk : kk = i.size := (hk _ _ h2).symm.trans h3
      refine ⟨_, hrun b off _ c k q h1 hlt, rfl, .ptr b (off + q.toNat * i.size) 0 _ row (cv q.toNat) rfl ?_ ?_ ?_⟩
      · intro j x hx; rw [← hkk]; exact hm _ _ j x h2 hx
      · intro j x hx; exact hr _ _ j x h2 hx
      · intro j x hx; exact ho _ _ j x h2 hx
  cases z with
  | d z =>
    cases z with
    | int k q =>
      have hq := inv_int hj
      simp only at ha
      cases y with
      | own id ver =>
        obtain ⟨b, c, hb, hc, hle, h1, he⟩ : ∃ b c, bl id = some b ∧ b.ver? = some c ∧ ver ≤ c ∧ xv.oneCell' = true ∧ (ver = c → xv = hd id) := hx
        simp only [hb] at ha
        cases b with
        | box cs => cases ha
        | fbox cs => cases ha
        | rows v' e' sz rows =>
          simp only at ha
          split at ha
          · rename_i hv
            obtain ⟨rfl, rfl, g1, g2⟩ := hv
            cases ha
            simp only [Blk.ver?, Option.some.injEq] at hc
            obtain rfl := he hc
            obtain ⟨q1, q2, ⟨xs, q3, q4⟩, q5⟩ := r.blk id _ hb
            rcases q3.2 with ⟨q6, q7⟩ | ⟨g, cap, cur, q6, _⟩
            · omega
            · refine ⟨rfl, .pointer (some ⟨g, 0 + q.toNat * i.size, none⟩), by rw [q6, hq]; exact hrun g 0 _ cap k q g1 g2, _, _, hb, rfl, Nat.le_refl _, rfl, fun e s rows' eq => ?_⟩
              cases eq
              exact ⟨g, _, cap, q6, by simp⟩
          · cases ha
        | froz v' rows =>
          simp only at ha
          split at ha
          · rename_i hv
            obtain ⟨rfl, g1⟩ := hv
            simp only [Blk.ver?, Option.some.injEq] at hc
            obtain rfl := he hc
            split at ha
            · rename_i row hrow
              split at ha
              · rename_i hlen
                cases ha
                exact ⟨rfl, pure_ok k q rows row g1 hrow hlen (r.blk id _ hb) hq⟩
              · cases ha
            · cases ha
          · cases ha
      | d y =>
        cases y with
        | sl rows =>
          simp only at ha
          split at ha
          · rename_i g1
            split at ha
            · rename_i row hrow
              split at ha
              · rename_i hlen
                cases ha
                exact ⟨rfl, pure_ok k q rows row g1 hrow hlen hx.2 hq⟩
              · cases ha
            · cases ha
          · cases ha
        | _ => cases ha
      | _ => cases ha
    | _ => cases ha
  | _ => cases ha

/-- what a slice reads as -/
theorem rowsOf_ok (r : Rl nt w0 h0 fr bl a w h hd) {x : V} {xv : Value} (hx : R3 h hd bl xv x) {rows : List (List D)} (e : rowsOf bl x = some rows) :
    Reads (hFz w h hd (fz1 bl x)) xv (.sl rows) := by
  refine (toD1_ok r (fz1 bl x) (x := x) (d := .sl rows) ?_ ?_ fun p hp => hp).1
  · cases x <;> first | exact hx | cases e
  · cases x with
    | d y => cases y <;> first | cases e; rfl | cases e
    | nil => cases e; rfl
    | own id ver =>
      simp only [rowsOf, toD1, toD0] at e ⊢
      split <;> rename_i hb <;> simp only [hb] at e
      · split at e
        · rename_i hv; cases e; rw [if_pos hv]
        · cases e
      · split at e
        · rename_i hv; cases e; rw [if_pos hv]
        · cases e
      · cases e
    | _ => cases e
theorem reads_sl {h : Hp} {v : Value} {rows : List (List D)} (r : Reads h v (.sl rows)) : ∃ a n c, v = .slice a n c ∧ n = rows.length := by
  cases r with
  | sl0 a c h0 => exact ⟨a, 0, c, rfl, rfl⟩
  | sl b off c k n rows cv hn hc hk hm hr ho => exact ⟨_, _, _, rfl, hn⟩
theorem len_run (r : Rl nt w0 h0 fr bl a w h hd) {t ty e : TypeId} (ht : P.underlying t = some (.slice e)) {C : Nat → List D → Option D} {site : Nat} {x : Opd} {xv : Value} (hx : R3 h hd bl xv (evo fr x)) {v : V} {wr : List (Nat × Option Blk)}
    (ha : aop C site (evo fr) bl (.len x) = some (v, wr)) : wr = [] ∧ ∃ cv, (Builtin.len_ #[t] ty #[xv]).run P w = .ok cv w ∧ R3 h hd bl cv v := by
  simp only [aop] at ha
  rw [Option.map_eq_some_iff] at ha
  obtain ⟨rows, h1, h2⟩ := ha
  cases h2
  obtain ⟨ao, n, c, rfl, rfl⟩ := reads_sl (rowsOf_ok r hx h1)
  exact ⟨rfl, .int .i64 rows.length, by simp [Builtin.len_, run_underlying ht, goInt], rfl, .int _ _⟩
theorem lenS_run {t ty : TypeId} (ht : P.underlying t = some .string) {C : Nat → List D → Option D} {site : Nat} {x : Opd} {xv : Value} (hx : R3 h hd bl xv (evo fr x)) {v : V} {wr : List (Nat × Option Blk)}
    (ha : aop C site (evo fr) bl (.lenS x) = some (v, wr)) : wr = [] ∧ ∃ cv, (Builtin.len_ #[t] ty #[xv]).run P w = .ok cv w ∧ R3 h hd bl cv v := by
  simp only [aop] at ha
  generalize evo fr x = y at ha hx
  split at ha
  · rename_i s
    cases ha
    rw [(inv_str hx).1]
    exact ⟨rfl, .int .i64 s.size, by simp [Builtin.len_, run_underlying ht, goInt], rfl, .int _ _⟩
  · cases ha
end
end Vm
end Go.Proofs.Ytdjfaepokfdihaa
