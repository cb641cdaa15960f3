/- Calls are run; what a call answers at last. -/
import Derived.Test.YtdjfaepokfdihaaVmCode
set_option linter.unusedVariables false
namespace Go.Proofs.Ytdjfaepokfdihaa
namespace Vm
open Go.RowKit

def argV : D → V
  | .tup _ => .any
  | x => toV2 x
def initFr : Nat → List D → List (Nat × V)
  | _, [] => []
  | i, d :: ds => (i, argV d) :: initFr (i + 1) ds
def resV (s : St) : SRes → Option V
  | .tmp t => some (s.get t)
  | .cell t size isAgg => match aop (fun _ _ => none) 0 (fun _ => s.get t) s.blk (.load size isAgg (.t t)) with
    | some (v, _) => some v
    | none => none
/-- the slices of its own that a value holds -/
def ownId (bl : Nat → Option Blk) : V → List Nat
  | .own id ver => match bl id with
    | some (.rows v _ _ _) => if ver = v then [id] else []
    | _ => []
  | _ => []
def ownId2 (bl : Nat → Option Blk) : V → List Nat
  | .agg cs => cs.flatMap (ownId bl)
  | v => ownId bl v
def ownId3 (bl : Nat → Option Blk) : V → List Nat
  | .tup vs => vs.flatMap (ownId2 bl)
  | v => ownId2 bl v
def idxN : List Nat → Nat → Option Nat
  | [], _ => none
  | a :: l, x => if a = x then some 0 else (idxN l x).map (· + 1)
def inN : List Nat → Nat → Bool
  | [], _ => false
  | a :: l, x => if a = x then true else inN l x
def nodupN : List Nat → Bool
  | [] => true
  | a :: l => if inN l a = true then false else nodupN l
def toR1 (bl : Nat → Option Blk) (ids : List Nat) : V → Option D
  | .d x => some x
  | .nil => some (.sl [])
  | .own id ver => match bl id with
    | some (.rows v _ _ _) => if ver = v then (idxN ids id).map .ref else none
    | some (.froz v rows) => if ver = v then some (.sl rows) else none
    | _ => none
  | _ => none
def toR2 (bl : Nat → Option Blk) (ids : List Nat) : V → Option D
  | .agg cs => (mapM' (toR1 bl ids) cs).map .agg
  | v => toR1 bl ids v
def toR (bl : Nat → Option Blk) (ids : List Nat) : V → Option D
  | .tup vs => (mapM' (toR2 bl ids) vs).map .tup
  | v => toR2 bl ids v
def blkE (bl : Nat → Option Blk) (id : Nat) : Option (Nat × Nat) := match bl id with
  | some (.rows _ e size _) => some (e, size)
  | _ => none
def blkR (bl : Nat → Option Blk) (id : Nat) : Option (List (List D)) := match bl id with
  | some (.rows _ _ _ rows) => some rows
  | _ => none
/-- a value that is handed over with the slices of its own -/
def freshD (bl : Nat → Option Blk) (v : V) : Option D :=
  if nodupN (ownId3 bl v) = true then
    match toR bl (ownId3 bl v) v, mapM' (blkE bl) (ownId3 bl v), mapM' (blkR bl) (ownId3 bl v) with
    | some x, some es, some rs => some (.own x es rs)
    | _, _, _ => none
  else none
def finish (sf : SFunc) (s : St) : Option D := match mapM' (resV s) sf.results with
  | none => none
  | some [v] => if sf.fresh = true then freshD s.blk v else toD2 s.blk v
  | some vs => if sf.fresh = true then freshD s.blk (.tup vs) else toD s.blk (.tup vs)
/-- code, or what is known of it from elsewhere -/
inductive Def where
  | code (sf : SFunc)
  | told (o : List D → Option D)
abbrev Tbl := Nat → Option Def
def callN (T : Tbl) : Nat → Nat → List D → Option D
  | 0, _, _ => none
  | n + 1, f, args => match T f with
    | none => none
    | some (.told o) => o args
    | some (.code sf) => if args.length = sf.np then match evalN (callN T n) n sf.body ⟨initFr 0 args, []⟩ with
        | some (.normal, s) => finish sf s
        | some (.ret, s) => finish sf s
        | _ => none
      else none

theorem initFr_get : ∀ (l : List D) (i t : Nat), lk (initFr i l) .any t = if i ≤ t then (match l[t - i]? with | some d => argV d | none => .any) else .any
  | [], i, t => by simp [initFr, lk]
  | d :: l, i, t => by
    simp only [initFr, lk, initFr_get l (i + 1) t]
    by_cases e : t = i
    · subst e; simp
    · rw [if_neg e]
      by_cases h : i + 1 ≤ t
      · rw [if_pos h, if_pos (by omega)]
        have : t - i = (t - (i + 1)) + 1 := by omega
        rw [this, List.getElem?_cons_succ]
      · rw [if_neg h, if_neg (by omega)]

section
variable {P : Program}
theorem argV_ok {h : Hp} {hd : Nat → Value} {bl : Nat → Option Blk} {v : Value} {d : D} (r : Reads h v d) : R3 h hd bl v (argV d) := by
  cases d with
  | tup vs => trivial
  | agg cs => exact R3.of2 (toV2_ok r (fun vs e => by cases e))
  | int k n => exact R3.of2 (toV2_ok r (fun vs e => by cases e))
  | bool b => exact R3.of2 (toV2_ok r (fun vs e => by cases e))
  | str s => exact R3.of2 (toV2_ok r (fun vs e => by cases e))
  | sl rows => exact R3.of2 (toV2_ok r (fun vs e => by cases e))
  | ptr row off => exact R3.of2 (toV2_ok r (fun vs e => by cases e))
  | fn f caps => exact R3.of2 (toV2_ok r (fun vs e => by cases e))
  | np => exact R3.of2 (toV2_ok r (fun vs e => by cases e))
  | ref n => cases r
  | own x es rs => cases r

theorem results_ok {nt : Nat} {w0 w : World} {h0 h : Hp} {s : St} {a : Act} {hd : Nat → Value} (r : Rl nt w0 h0 s.get s.blk a w h hd) : ∀ (l : List ResultVar) (rs : List SRes) (vs : List V), mapM' (lowR P) l = some rs → mapM' (resV s) rs = some vs →
    ∃ cvs : List Value, (l.mapM fun x => (match x with | .tmp t => pure (a.tmps.getD t undef) | .cell b t => do loadVar t (← asAddr (a.tmps.getD b undef)) : Sem Value)).run P w = .ok cvs w ∧ cvs.length = vs.length ∧ ∀ (j : Nat) (x : V), vs[j]? = some x → R3 h hd s.blk (cvs.getD j undef) x
  | [], rs, vs, h1, h2 => by
    simp only [mapM', Option.some.injEq] at h1
    subst h1
    simp only [mapM', Option.some.injEq] at h2
    subst h2
    exact ⟨[], by simp, rfl, fun j x hx => by simp at hx⟩
  | x :: l, rs, vs, h1, h2 => by
    simp only [mapM'] at h1
    split at h1
    · cases h1
    · rename_i y hy
      split at h1
      · cases h1
      · rename_i ys hys
        cases h1
        simp only [mapM'] at h2
        split at h2
        · cases h2
        · rename_i v hv
          split at h2
          · cases h2
          · rename_i us hus
            cases h2
            obtain ⟨cvs, g1, g2, g3⟩ := results_ok r l ys us hys hus
            have hone : ∃ cv, ((match x with | .tmp t => pure (a.tmps.getD t undef) | .cell b t => do loadVar t (← asAddr (a.tmps.getD b undef)) : Sem Value)).run P w = .ok cv w ∧ R3 h hd s.blk cv v := by
              cases x with
              | tmp t =>
                simp only [lowR, Option.some.injEq] at hy
                subst hy
                simp only [resV, Option.some.injEq] at hv
                subst hv
                exact ⟨_, rfl, r.frame t⟩
              | cell b t =>
                simp only [lowR] at hy
                split at hy
                · rename_i ag i hag hi
                  cases hy
                  simp only [resV] at hv
                  split at hv
                  · rename_i v' wr hload
                    cases hv
                    have := load_ok (P := P) (C := fun _ _ => none) (site := 0) (x := .t b) (xv := a.tmps.getD b undef) r hag hi (r.frame b) (v := v) (wr := wr) (by simpa [aop, evo] using hload)
                    obtain ⟨_, cv, q1, q2⟩ := this
                    refine ⟨cv, ?_, q2⟩
                    cases hp : a.tmps.getD b undef <;> rw [hp] at q1 <;> first | (simp [Instr.loadAt, Instr.sureAddr] at q1; done) | skip
                    rename_i ao
                    cases ao with
                    | none => simp [Instr.loadAt, Instr.sureAddr] at q1
                    | some ad =>
                      have hp' : a.tmps[b]?.getD undef = .pointer (some ad) := by simpa using hp
                      simpa [Instr.loadAt, Instr.sureAddr, asAddr, hp'] using q1
                  · cases hv
                · cases hy
            obtain ⟨cv, q1, q2⟩ := hone
            refine ⟨cv :: cvs, ?_, by simp [g2], fun j z hz => ?_⟩
            · rw [List.mapM_cons]
              simp only [Sem.run_bind, q1, Result.andThen_ok, g1, Sem.run_pure]
            · cases j with
              | zero => simp at hz; subst hz; simpa using q2
              | succ j => simpa using g3 j z (by simpa using hz)

/-! what is handed over -/
theorem Reads.toF {base : Nat} {w : World} {h : Hp} {v : Value} {x : D} (r : Reads h v x) : ReadsF base w h v x := by
  cases x <;> first | exact r | (cases r; done)
theorem freshD_one {bl : Nat → Option Blk} {vs : List V} {x : D} (e : freshD bl (.tup vs) = some x) {j : Nat} {z : V} (hz : vs[j]? = some z) : ∃ y, toR2 bl (ownId3 bl (.tup vs)) z = some y := by
  unfold freshD at e
  split at e
  · split at e
    · rename_i y es rs hy hes hrs
      simp only [toR, Option.map_eq_some_iff] at hy
      obtain ⟨ds, hm, _⟩ := hy
      obtain ⟨y, _, h2⟩ := (mapM'_some hm).2 j z hz
      exact ⟨y, h2⟩
    · cases e
  · cases e
theorem idxN_some : ∀ {l : List Nat} {x n : Nat}, idxN l x = some n → l[n]? = some x
  | [], x, n, e => by cases e
  | a :: l, x, n, e => by
    simp only [idxN] at e
    split at e
    · rename_i hx; cases e; simp [hx]
    · rw [Option.map_eq_some_iff] at e
      obtain ⟨m, h1, rfl⟩ := e
      simpa using idxN_some h1
theorem inN_false : ∀ {l : List Nat} {x : Nat}, inN l x = false → ∀ n : Nat, l[n]? ≠ some x
  | [], x, _, n => by simp
  | a :: l, x, e, n => by
    simp only [inN] at e
    split at e
    · cases e
    · rename_i hx
      cases n with
      | zero => simpa using hx
      | succ n => simpa using inN_false e n
theorem nodupN_inj : ∀ {l : List Nat}, nodupN l = true → ∀ {n m x : Nat}, l[n]? = some x → l[m]? = some x → n = m
  | [], _, n, m, x, h1, h2 => by simp at h1
  | a :: l, e, n, m, x, h1, h2 => by
    simp only [nodupN] at e
    split at e
    · cases e
    · rename_i hx
      have hx : inN l a = false := by simpa using hx
      cases n with
      | zero => cases m with
        | zero => rfl
        | succ m => simp at h1 h2; subst h1; exact absurd h2 (inN_false hx m)
      | succ n => cases m with
        | zero => simp at h1 h2; subst h2; exact absurd h1 (inN_false hx n)
        | succ m => simp at h1 h2; rw [nodupN_inj e h1 h2]
theorem frId_inj {site n m : Nat} (e : frId site n = frId site m) : n = m := by unfold frId at e; omega
theorem frId_back (site n : Nat) : (frId site n - site) / 100000 - 1 = n := by
  unfold frId
  rw [Nat.add_sub_cancel_left, Nat.mul_div_cancel_left _ (by decide)]
  omega
theorem newBlks_at (site : Nat) : ∀ (es : List (Nat × Nat)) (rs : List (List (List D))) (k n : Nat) (e size : Nat) (rows : List (List D)), es[n]? = some (e, size) → rs[n]? = some rows → lk (newBlks site k es rs) none (frId site (k + n)) = some (.rows 0 e size rows)
  | [], rs, k, n, e, size, rows, h1, h2 => by simp at h1
  | p :: es, [], k, n, e, size, rows, h1, h2 => by simp at h2
  | (e', s') :: es, r :: rs, k, n, e, size, rows, h1, h2 => by
    simp only [newBlks, lk]
    cases n with
    | zero => simp at h1 h2; simp [h1, h2]
    | succ n =>
      rw [if_neg (fun q => by have := frId_inj q; omega), show k + (n + 1) = (k + 1) + n by omega]
      exact newBlks_at site es rs (k + 1) n e size rows (by simpa using h1) (by simpa using h2)
theorem newBlks_back (site : Nat) : ∀ (es : List (Nat × Nat)) (rs : List (List (List D))) (k id : Nat) (b : Blk), lk (newBlks site k es rs) none id = some b → ∃ n e size rows, id = frId site (k + n) ∧ es[n]? = some (e, size) ∧ rs[n]? = some rows ∧ b = .rows 0 e size rows
  | [], rs, k, id, b, h => by simp [newBlks, lk] at h
  | p :: es, [], k, id, b, h => by simp [newBlks, lk] at h
  | (e', s') :: es, r :: rs, k, id, b, h => by
    simp only [newBlks, lk] at h
    split at h
    · rename_i hi
      cases h
      exact ⟨0, e', s', r, hi, rfl, rfl, rfl⟩
    · obtain ⟨n, e, size, rows, h1, h2, h3, h4⟩ := newBlks_back site es rs (k + 1) id b h
      exact ⟨n + 1, e, size, rows, by rw [h1, show k + 1 + n = k + (n + 1) by omega], by simpa using h2, by simpa using h3, h4⟩
theorem blkE_some {bl : Nat → Option Blk} {id e size : Nat} (h : blkE bl id = some (e, size)) : ∃ v rows, bl id = some (.rows v e size rows) := by
  unfold blkE at h
  split at h
  · rename_i v e' s' rows hb; cases h; exact ⟨v, rows, hb⟩
  · cases h
section
variable {nt : Nat} {w0 w : World} {h0 h : Hp} {fr : Nat → V} {bl : Nat → Option Blk} {a : Act} {hd hd0 : Nat → Value} {nb : Nat → Option Blk} {ids : List Nat} {site : Nat}
theorem toR1_ok (r : Rl nt w0 h0 fr bl a w h hd) (hnew : ∀ n id v e s rows, ids[n]? = some id → bl id = some (.rows v e s rows) → nb (frId site n) = some (.rows 0 e s rows)) (hhd : ∀ n id, ids[n]? = some id → hd0 (frId site n) = hd id)
    {u : Value} {z : V} (hu : R1 h hd bl u z) {d : D} (e : toR1 bl ids z = some d) : R1 h hd0 nb u (thaw1 site d) ∧ d.atom = true := by
  cases z with
  | d x =>
    cases e
    obtain ⟨g1, g2⟩ := hu
    refine ⟨?_, g1⟩
    cases d <;> first | exact ⟨g1, g2⟩ | (cases g2; done)
  | nil =>
    cases e
    exact ⟨⟨rfl, by rw [show u = _ from hu]; exact .sl0 none 0 (fun _ => rfl)⟩, rfl⟩
  | own id ver =>
    obtain ⟨b, c, hb, hc, hle, h1, he⟩ := hu
    simp only [toR1, hb] at e
    cases b with
    | rows v e' s rows =>
      simp only at e
      split at e
      · rename_i hv
        rw [Option.map_eq_some_iff] at e
        obtain ⟨n, hn, rfl⟩ := e
        have hi := idxN_some hn
        refine ⟨⟨_, 0, hnew n id v e' s rows hi hb, rfl, Nat.le_refl _, h1, fun _ => ?_⟩, rfl⟩
        rw [hhd n id hi]
        exact he (by simp only [Blk.ver?, Option.some.injEq] at hc; omega)
      · cases e
    | froz v rows =>
      simp only at e
      split at e
      · rename_i hv
        cases e
        refine ⟨⟨rfl, ?_⟩, rfl⟩
        rw [he (by simp only [Blk.ver?, Option.some.injEq] at hc; omega)]
        exact r.blk id _ hb
      · cases e
    | _ => cases e
  | _ => cases e
theorem toR2_ok (r : Rl nt w0 h0 fr bl a w h hd) (hnew : ∀ n id v e s rows, ids[n]? = some id → bl id = some (.rows v e s rows) → nb (frId site n) = some (.rows 0 e s rows)) (hhd : ∀ n id, ids[n]? = some id → hd0 (frId site n) = hd id)
    {u : Value} {z : V} (hu : R2 h hd bl u z) {d : D} (e : toR2 bl ids z = some d) : R2 h hd0 nb u (thaw2 site d) ∧ d.noTup = true := by
  have one : R1 h hd bl u z → toR1 bl ids z = some d → R2 h hd0 nb u (thaw2 site d) ∧ d.noTup = true := fun q1 q2 => by
    obtain ⟨g1, g2⟩ := toR1_ok r hnew hhd q1 q2
    cases d <;> first | (cases g2; done) | exact ⟨R2.of1 g1, rfl⟩
  cases z with
  | agg cs =>
    obtain ⟨arr, rfl, hl, hc⟩ := hu
    simp only [toR2, Option.map_eq_some_iff] at e
    obtain ⟨ds, hm, rfl⟩ := e
    obtain ⟨m1, m2⟩ := mapM'_some hm
    refine ⟨⟨arr, rfl, by simp; omega, fun j x hx => ?_⟩, rfl⟩
    rw [List.getElem?_map, Option.map_eq_some_iff] at hx
    obtain ⟨y, hy, rfl⟩ := hx
    obtain ⟨z, z1, z2⟩ := mapM'_back hm hy
    exact ⟨(toR1_ok r hnew hhd (hc j z z1).1 z2).1, (hc j z z1).2⟩
  | _ => exact one hu e
theorem toR_ok (r : Rl nt w0 h0 fr bl a w h hd) (hnew : ∀ n id v e s rows, ids[n]? = some id → bl id = some (.rows v e s rows) → nb (frId site n) = some (.rows 0 e s rows)) (hhd : ∀ n id, ids[n]? = some id → hd0 (frId site n) = hd id)
    {u : Value} {z : V} (hu : R3 h hd bl u z) {d : D} (e : toR bl ids z = some d) : R3 h hd0 nb u (thaw site d) := by
  have one : R2 h hd bl u z → toR2 bl ids z = some d → R3 h hd0 nb u (thaw site d) := fun q1 q2 => by
    obtain ⟨g1, g2⟩ := toR2_ok r hnew hhd q1 q2
    cases d <;> first | (cases g2; done) | exact R3.of2 g1
  cases z with
  | tup vs =>
    obtain ⟨arr, rfl, hl, hc⟩ := hu
    simp only [toR, Option.map_eq_some_iff] at e
    obtain ⟨ds, hm, rfl⟩ := e
    obtain ⟨m1, m2⟩ := mapM'_some hm
    refine ⟨arr, rfl, by simp; omega, fun j x hx => ?_⟩
    rw [List.getElem?_map, Option.map_eq_some_iff] at hx
    obtain ⟨y, hy, rfl⟩ := hx
    obtain ⟨z, z1, z2⟩ := mapM'_back hm hy
    exact (toR2_ok r hnew hhd (hc j z z1) z2).1
  | _ => exact one hu e
theorem fresh_ok (r : Rl nt w0 h0 fr bl a w h hd) {cv : Value} {v : V} (hv : R3 h hd bl cv v) {x : D} (e : freshD bl v = some x) : ReadsF w0.heap.size w h cv x := by
  unfold freshD at e
  split at e
  · rename_i hnd
    split at e
    · rename_i y es rs hy hes hrs
      cases e
      intro site
      generalize hids : ownId3 bl v = ids at hnd hy hes hrs
      have hhd : ∀ n id, ids[n]? = some id → (fun i => hd (ids.getD ((i - site) / 100000 - 1) 0)) (frId site n) = hd id := fun n id hn => by
        simp only [frId_back, List.getD_eq_getElem?_getD, hn, Option.getD_some]
      have hE := mapM'_some hes
      have hR := mapM'_some hrs
      have hnew : ∀ n id v e s rows, ids[n]? = some id → bl id = some (.rows v e s rows) → newB site es rs (frId site n) = some (.rows 0 e s rows) := fun n id v e s rows hn hb => by
        obtain ⟨y1, g1, g2⟩ := hE.2 n id hn
        obtain ⟨y2, g3, g4⟩ := hR.2 n id hn
        simp only [blkE, blkR, hb, Option.some.injEq] at g2 g4
        subst g2; subst g4
        have := newBlks_at site es rs 0 n e s rows g1 g3
        rw [Nat.zero_add] at this
        exact this
      have hback : ∀ i b, newB site es rs i = some b → ∃ n id ver e size rows, i = frId site n ∧ ids[n]? = some id ∧ bl id = some (.rows ver e size rows) ∧ b = .rows 0 e size rows := fun i b hb => by
        obtain ⟨n, e, size, rows, h1, h2, h3, h4⟩ := newBlks_back site es rs 0 i b hb
        obtain ⟨id, g1, g2⟩ := mapM'_back hes h2
        obtain ⟨ver, rows', g3⟩ := blkE_some g2
        obtain ⟨y2, g4, g5⟩ := hR.2 n id g1
        simp only [blkR, g3, Option.some.injEq] at g5
        rw [h3] at g4
        cases g4
        subst g5
        exact ⟨n, id, ver, e, size, rows', by rw [h1, Nat.zero_add], g1, g3, h4⟩
      refine ⟨fun i => hd (ids.getD ((i - site) / 100000 - 1) 0), toR_ok r hnew hhd hv hy, fun i b hb => ?_, fun i j bi bj g hi hj gi gj => ?_⟩
      · obtain ⟨n, id, ver, e, size, rows, rfl, h2, h3, rfl⟩ := hback i b hb
        have hb' := r.blk id _ h3
        obtain ⟨k1, k2, ⟨xs, k3, k4⟩, k5⟩ := hb'
        have hh := hhd n id h2
        exact ⟨k1, k2, ⟨xs, by rw [hh]; exact k3, k4⟩, by rw [hh]; exact k5⟩
      · obtain ⟨n, id, ver, e, size, rows, rfl, h2, h3, rfl⟩ := hback i bi hi
        obtain ⟨m, id', ver', e', size', rows', rfl, h2', h3', rfl⟩ := hback j bj hj
        rw [hhd n id h2] at gi
        rw [hhd m id' h2'] at gj
        have := r.sep id id' _ _ g h3 h3' rfl rfl gi gj
        subst this
        rw [nodupN_inj hnd h2 h2']
    · cases e
  · cases e
end

/-- a call that ends is sound -/
theorem call_ok (T : Tbl) (hT : ∀ f sf, T f = some (.code sf) → ∃ fn, P.funcs[f]? = some fn ∧ Lows P fn sf) (hO : ∀ f o, T f = some (.told o) → ∀ ds x, o ds = some x → Sound P f ds x) (hm : P.follows .mixedOrders = true) : ∀ (n f : Nat) (ds : List D) (x : D), callN T n f ds = some x → Sound P f ds x
  | 0, f, ds, x, e => by cases e
  | n + 1, f, ds, x, e => by
    simp only [callN] at e
    split at e
    · cases e
    · rename_i o ho
      exact hO f o ho ds x e
    · rename_i sf hsf
      split at e
      · rename_i hnp
        obtain ⟨fn, hfn, l1, l2, l3, l4, l5, c, l6, l7⟩ := hT f sf hsf
        have hfin : ∃ ex s, evalN (callN T n) n sf.body ⟨initFr 0 ds, []⟩ = some (ex, s) ∧ finish sf s = some x ∧ (ex = .normal ∨ ex = .ret) := by
          split at e
          · rename_i s hs; exact ⟨_, s, hs, e, .inl rfl⟩
          · rename_i s hs; exact ⟨_, s, hs, e, .inr rfl⟩
          · cases e
        obtain ⟨ex, s, hev, hfs, hex⟩ := hfin
        refine ⟨⟨fn, hfn, l2, by rw [l6]; rfl⟩, ?_⟩
        intro w h vs hle hvs hrd
        refine calls_of_wp hfn l6 ?_
        have hvsz : vs.size = sf.np := by omega
        have r0 : Rl sf.nt w h (⟨initFr 0 ds, []⟩ : St).get (⟨initFr 0 ds, []⟩ : St).blk { tmps := vs ++ Array.replicate (fn.ntmps - vs.size) undef, defers := [] } w h (fun _ => undef) := {
          tmps := by simp; omega
          defers := rfl
          below := Below.refl _ _
          hle := hle
          h0le := Hp.le.refl _
          hbase := fun _ _ => rfl
          frame := fun t => by
            have e1 : (⟨initFr 0 ds, []⟩ : St).get t = (match ds[t]? with | some d => argV d | none => .any) := by
              have := initFr_get ds 0 t
              simpa [St.get] using this
            rw [e1]
            cases hd : ds[t]? with
            | none => trivial
            | some d =>
              have hlt : t < vs.size := by rw [hvs]; exact (List.getElem?_eq_some_iff.1 hd).1
              have e2 : (vs ++ Array.replicate (fn.ntmps - vs.size) undef).getD t undef = vs.getD t undef := by
                simp only [Array.getD_eq_getD_getElem?]
                rw [Array.getElem?_append_left hlt]
              simp only [e2]
              exact argV_ok (hrd t d hd)
          blk := fun id b hb => by simp [St.blk, lk] at hb
          sep := fun i j bi bj g hi => by simp [St.blk, lk] at hi }
        refine code_ok (call_ok T hT hO hm n) hm n sf.body c _ s ex _ w h _ _ l7 hev r0 fun a' w' h' hd' r' => ?_
        have key : a'.defers = [] ∧ ∃ v, (results fn a'.tmps).run P w' = .ok v w' ∧ ∃ v' h'', (Ending.returned v) = .returned v' ∧ ReadsF w.heap.size w' h'' v' x ∧ h.le h'' ∧ h''.le (hw w') ∧ (∀ b, b < w.heap.size → h'' b = h b) ∧ Below w.heap.size w w' := by
          refine ⟨r'.defers, ?_⟩
          unfold finish at hfs
          split at hfs
          · cases hfs
          · rename_i v hres
            obtain ⟨cvs, g1, g2, g3⟩ := results_ok r' fn.results.toList sf.results [v] l5 hres
            match cvs, g2 with
            | [cv], _ =>
              have hv : R3 h' hd' s.blk cv v := by simpa using g3 0 v rfl
              have hrun : (results fn a'.tmps).run P w' = .ok cv w' := by
                unfold results
                rw [← Array.toArray_toList (xs := fn.results), List.mapM_toArray]
                simp only [Sem.run_bind, Sem.run_map]
                erw [g1]
                simp
              split at hfs
              · exact ⟨cv, hrun, cv, h', rfl, fresh_ok r' hv hfs, r'.h0le, r'.hle, r'.hbase, r'.below⟩
              have hrd : Reads (hFz w' h' hd' (fz2 s.blk v)) cv x := toD2_ok r' _ (by cases v <;> first | exact hv | cases hfs) hfs (fun p hp => hp)
              exact ⟨cv, hrun, cv, hFz w' h' hd' (fz2 s.blk v), rfl, hrd.toF, r'.h0le.trans (hFz_le r' _), hFz_hw r' _, fun b hb => (hFz_base r' _ (fz2_ok v) b hb).trans (r'.hbase b hb), r'.below⟩
          · rename_i vs' hne hres
            obtain ⟨cvs, g1, g2, g3⟩ := results_ok r' fn.results.toList sf.results vs' l5 hres
            have hne1 : cvs.length ≠ 1 := by
              intro h1
              rw [g2] at h1
              match vs', h1 with
              | [v], _ => exact hne v rfl
            have hrun : (results fn a'.tmps).run P w' = .ok (.tuple cvs.toArray) w' := by
              unfold results
              rw [← Array.toArray_toList (xs := fn.results), List.mapM_toArray]
              simp only [Sem.run_bind, Sem.run_map]
              erw [g1]
              simp [hne1]
            split at hfs
            · rename_i hfr
              have hR : R3 h' hd' s.blk (.tuple cvs.toArray) (.tup vs') := by
                refine ⟨cvs.toArray, rfl, by simpa using g2, fun j z hz => ?_⟩
                have h3 := g3 j z hz
                have e3 : cvs.toArray.getD j undef = cvs.getD j undef := by simp
                rw [e3]
                obtain ⟨y, hy⟩ := freshD_one hfs hz
                cases z <;> first | exact h3 | cases hy
              exact ⟨_, hrun, _, h', rfl, fresh_ok r' hR hfs, r'.h0le, r'.hle, r'.hbase, r'.below⟩
            have hR : R3 h' hd' s.blk (.tuple cvs.toArray) (.tup vs') := by
              simp only [toD] at hfs
              cases hm2 : mapM' (toD2 s.blk) vs' with
              | none => simp [hm2] at hfs
              | some ys =>
                refine ⟨cvs.toArray, rfl, by simpa using g2, fun j z hz => ?_⟩
                have h3 := g3 j z hz
                have e3 : cvs.toArray.getD j undef = cvs.getD j undef := by simp
                rw [e3]
                obtain ⟨y, y1, y2⟩ := (mapM'_some hm2).2 j z hz
                cases z <;> first | exact h3 | cases y2
            refine ⟨_, hrun, _, hFz w' h' hd' (vs'.flatMap (fz2 s.blk)), rfl, (toD_ok r' _ hR hfs (fun p hp => hp)).toF, r'.h0le.trans (hFz_le r' _), hFz_hw r' _, fun b hb => (hFz_base r' _ ?_ b hb).trans (r'.hbase b hb), r'.below⟩
            exact FzOk.flatMap vs' fun z => z
        rcases hex with rfl | rfl
        · exact key
        · exact key
      · cases e
end
end Vm
end Go.Proofs.Ytdjfaepokfdihaa
