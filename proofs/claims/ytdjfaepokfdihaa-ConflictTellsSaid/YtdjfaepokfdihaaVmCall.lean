/- Calls are run; what a call answers at last. -/
import Derived.Test.YtdjfaepokfdihaaVmCode
set_option linter.unusedVariables false
namespace Go.Proofs.Ytdjfaepokfdihaa
namespace Vm
open Go.RowKit

def argV : D → V
  | .tup _ => .any
  | x => toV2 x
def initFr : Nat → List D → List (Nat × V)
  | _, [] => []
  | i, d :: ds => (i, argV d) :: initFr (i + 1) ds
def resV (s : St) : SRes → Option V
  | .tmp t => some (s.get t)
  | .cell t size isAgg => match aop (fun _ _ => none) 0 (fun _ => s.get t) s.blk (.load size isAgg (.t t)) with
    | some (v, _) => some v
    | none => none
def finish (sf : SFunc) (s : St) : Option D := match mapM' (resV s) sf.results with
  | none => none
  | some [v] => toD2 s.blk v
  | some vs => toD s.blk (.tup vs)
/-- code, or what is known of it from elsewhere -/
inductive Def where
  | code (sf : SFunc)
  | told (o : List D → Option D)
abbrev Tbl := Nat → Option Def
def callN (T : Tbl) : Nat → Nat → List D → Option D
  | 0, _, _ => none
  | n + 1, f, args => match T f with
    | none => none
    | some (.told o) => o args
    | some (.code sf) => if args.length = sf.np then match evalN (callN T n) n sf.body ⟨initFr 0 args, []⟩ with
        | some (.normal, s) => finish sf s
        | some (.ret, s) => finish sf s
        | _ => none
      else none

theorem initFr_get : ∀ (l : List D) (i t : Nat), lk (initFr i l) .any t = if i ≤ t then (match l[t - i]? with | some d => argV d | none => .any) else .any
  | [], i, t => by simp [initFr, lk]
  | d :: l, i, t => by
    simp only [initFr, lk, initFr_get l (i + 1) t]
    by_cases e : t = i
    · subst e; simp
    · rw [if_neg e]
      by_cases h : i + 1 ≤ t
      · rw [if_pos h, if_pos (by omega)]
        have : t - i = (t - (i + 1)) + 1 := by omega
        rw [this, List.getElem?_cons_succ]
      · rw [if_neg h, if_neg (by omega)]

section
variable {P : Program}
theorem argV_ok {h : Hp} {hd : Nat → Value} {bl : Nat → Option Blk} {v : Value} {d : D} (r : Reads h v d) : R3 h hd bl v (argV d) := by
  cases d with
  | tup vs => trivial
  | agg cs => exact R3.of2 (toV2_ok r (fun vs e => by cases e))
  | int k n => exact R3.of2 (toV2_ok r (fun vs e => by cases e))
  | bool b => exact R3.of2 (toV2_ok r (fun vs e => by cases e))
  | str s => exact R3.of2 (toV2_ok r (fun vs e => by cases e))
  | sl rows => exact R3.of2 (toV2_ok r (fun vs e => by cases e))
  | ptr row off => exact R3.of2 (toV2_ok r (fun vs e => by cases e))
  | fn f caps => exact R3.of2 (toV2_ok r (fun vs e => by cases e))
  | np => exact R3.of2 (toV2_ok r (fun vs e => by cases e))

theorem results_ok {nt : Nat} {w0 w : World} {h0 h : Hp} {s : St} {a : Act} {hd : Nat → Value} (r : Rl nt w0 h0 s.get s.blk a w h hd) : ∀ (l : List ResultVar) (rs : List SRes) (vs : List V), mapM' (lowR P) l = some rs → mapM' (resV s) rs = some vs →
    ∃ cvs : List Value, (l.mapM fun x => (match x with | .tmp t => pure (a.tmps.getD t undef) | .cell b t => do loadVar t (← asAddr (a.tmps.getD b undef)) : Sem Value)).run P w = .ok cvs w ∧ cvs.length = vs.length ∧ ∀ (j : Nat) (x : V), vs[j]? = some x → R3 h hd s.blk (cvs.getD j undef) x
  | [], rs, vs, h1, h2 => by
    simp only [mapM', Option.some.injEq] at h1
    subst h1
    simp only [mapM', Option.some.injEq] at h2
    subst h2
    exact ⟨[], by simp, rfl, fun j x hx => by simp at hx⟩
  | x :: l, rs, vs, h1, h2 => by
    simp only [mapM'] at h1
    split at h1
    · cases h1
    · rename_i y hy
      split at h1
      · cases h1
      · rename_i ys hys
        cases h1
        simp only [mapM'] at h2
        split at h2
        · cases h2
        · rename_i v hv
          split at h2
          · cases h2
          · rename_i us hus
            cases h2
            obtain ⟨cvs, g1, g2, g3⟩ := results_ok r l ys us hys hus
            have hone : ∃ cv, ((match x with | .tmp t => pure (a.tmps.getD t undef) | .cell b t => do loadVar t (← asAddr (a.tmps.getD b undef)) : Sem Value)).run P w = .ok cv w ∧ R3 h hd s.blk cv v := by
              cases x with
              | tmp t =>
                simp only [lowR, Option.some.injEq] at hy
                subst hy
                simp only [resV, Option.some.injEq] at hv
                subst hv
                exact ⟨_, rfl, r.frame t⟩
              | cell b t =>
                simp only [lowR] at hy
                split at hy
                · rename_i ag i hag hi
                  cases hy
                  simp only [resV] at hv
                  split at hv
                  · rename_i v' wr hload
                    cases hv
                    have := load_ok (P := P) (C := fun _ _ => none) (site := 0) (x := .t b) (xv := a.tmps.getD b undef) r hag hi (r.frame b) (v := v) (wr := wr) (by simpa [aop, evo] using hload)
                    obtain ⟨_, cv, q1, q2⟩ := this
                    refine ⟨cv, ?_, q2⟩
                    cases hp : a.tmps.getD b undef <;> rw [hp] at q1 <;> first | (simp [Instr.loadAt, Instr.sureAddr] at q1; done) | skip
                    rename_i ao
                    cases ao with
                    | none => simp [Instr.loadAt, Instr.sureAddr] at q1
                    | some ad =>
                      have hp' : a.tmps[b]?.getD undef = .pointer (some ad) := by simpa using hp
                      simpa [Instr.loadAt, Instr.sureAddr, asAddr, hp'] using q1
                  · cases hv
                · cases hy
            obtain ⟨cv, q1, q2⟩ := hone
            refine ⟨cv :: cvs, ?_, by simp [g2], fun j z hz => ?_⟩
            · rw [List.mapM_cons]
              simp only [Sem.run_bind, q1, Result.andThen_ok, g1, Sem.run_pure]
            · cases j with
              | zero => simp at hz; subst hz; simpa using q2
              | succ j => simpa using g3 j z (by simpa using hz)

/-- a call that ends is sound -/
theorem call_ok (T : Tbl) (hT : ∀ f sf, T f = some (.code sf) → ∃ fn, P.funcs[f]? = some fn ∧ Lows P fn sf) (hO : ∀ f o, T f = some (.told o) → ∀ ds x, o ds = some x → Sound P f ds x) (hm : P.follows .mixedOrders = true) : ∀ (n f : Nat) (ds : List D) (x : D), callN T n f ds = some x → Sound P f ds x
  | 0, f, ds, x, e => by cases e
  | n + 1, f, ds, x, e => by
    simp only [callN] at e
    split at e
    · cases e
    · rename_i o ho
      exact hO f o ho ds x e
    · rename_i sf hsf
      split at e
      · rename_i hnp
        obtain ⟨fn, hfn, l1, l2, l3, l4, l5, c, l6, l7⟩ := hT f sf hsf
        have hfin : ∃ ex s, evalN (callN T n) n sf.body ⟨initFr 0 ds, []⟩ = some (ex, s) ∧ finish sf s = some x ∧ (ex = .normal ∨ ex = .ret) := by
          split at e
          · rename_i s hs; exact ⟨_, s, hs, e, .inl rfl⟩
          · rename_i s hs; exact ⟨_, s, hs, e, .inr rfl⟩
          · cases e
        obtain ⟨ex, s, hev, hfs, hex⟩ := hfin
        refine ⟨⟨fn, hfn, l2, by rw [l6]; rfl⟩, ?_⟩
        intro w h vs hle hvs hrd
        refine calls_of_wp hfn l6 ?_
        have hvsz : vs.size = sf.np := by omega
        have r0 : Rl sf.nt w h (⟨initFr 0 ds, []⟩ : St).get (⟨initFr 0 ds, []⟩ : St).blk { tmps := vs ++ Array.replicate (fn.ntmps - vs.size) undef, defers := [] } w h (fun _ => undef) := {
          tmps := by simp; omega
          defers := rfl
          below := Below.refl _ _
          hle := hle
          h0le := Hp.le.refl _
          hbase := fun _ _ => rfl
          frame := fun t => by
            have e1 : (⟨initFr 0 ds, []⟩ : St).get t = (match ds[t]? with | some d => argV d | none => .any) := by
              have := initFr_get ds 0 t
              simpa [St.get] using this
            rw [e1]
            cases hd : ds[t]? with
            | none => trivial
            | some d =>
              have hlt : t < vs.size := by rw [hvs]; exact (List.getElem?_eq_some_iff.1 hd).1
              have e2 : (vs ++ Array.replicate (fn.ntmps - vs.size) undef).getD t undef = vs.getD t undef := by
                simp only [Array.getD_eq_getD_getElem?]
                rw [Array.getElem?_append_left hlt]
              simp only [e2]
              exact argV_ok (hrd t d hd)
          blk := fun id b hb => by simp [St.blk, lk] at hb
          sep := fun i j bi bj g hi => by simp [St.blk, lk] at hi }
        refine code_ok (call_ok T hT hO hm n) hm n sf.body c _ s ex _ w h _ _ l7 hev r0 fun a' w' h' hd' r' => ?_
        have key : a'.defers = [] ∧ ∃ v, (results fn a'.tmps).run P w' = .ok v w' ∧ ∃ v' h'', (Ending.returned v) = .returned v' ∧ Reads h'' v' x ∧ h.le h'' ∧ h''.le (hw w') ∧ (∀ b, b < w.heap.size → h'' b = h b) ∧ Below w.heap.size w w' := by
          refine ⟨r'.defers, ?_⟩
          unfold finish at hfs
          split at hfs
          · cases hfs
          · rename_i v hres
            obtain ⟨cvs, g1, g2, g3⟩ := results_ok r' fn.results.toList sf.results [v] l5 hres
            match cvs, g2 with
            | [cv], _ =>
              have hv : R3 h' hd' s.blk cv v := by simpa using g3 0 v rfl
              have hrun : (results fn a'.tmps).run P w' = .ok cv w' := by
                unfold results
                rw [← Array.toArray_toList (xs := fn.results), List.mapM_toArray]
                simp only [Sem.run_bind, Sem.run_map]
                erw [g1]
                simp
              refine ⟨cv, hrun, cv, hFz w' h' hd' (fz2 s.blk v), rfl, toD2_ok r' _ ?_ hfs (fun p hp => hp), r'.h0le.trans (hFz_le r' _), hFz_hw r' _, fun b hb => (hFz_base r' _ (fz2_ok v) b hb).trans (r'.hbase b hb), r'.below⟩
              cases v <;> first | exact hv | cases hfs
          · rename_i vs' hne hres
            obtain ⟨cvs, g1, g2, g3⟩ := results_ok r' fn.results.toList sf.results vs' l5 hres
            have hne1 : cvs.length ≠ 1 := by
              intro h1
              rw [g2] at h1
              match vs', h1 with
              | [v], _ => exact hne v rfl
            have hrun : (results fn a'.tmps).run P w' = .ok (.tuple cvs.toArray) w' := by
              unfold results
              rw [← Array.toArray_toList (xs := fn.results), List.mapM_toArray]
              simp only [Sem.run_bind, Sem.run_map]
              erw [g1]
              simp [hne1]
            have hR : R3 h' hd' s.blk (.tuple cvs.toArray) (.tup vs') := by
              simp only [toD] at hfs
              cases hm2 : mapM' (toD2 s.blk) vs' with
              | none => simp [hm2] at hfs
              | some ys =>
                refine ⟨cvs.toArray, rfl, by simpa using g2, fun j z hz => ?_⟩
                have h3 := g3 j z hz
                have e3 : cvs.toArray.getD j undef = cvs.getD j undef := by simp
                rw [e3]
                obtain ⟨y, y1, y2⟩ := (mapM'_some hm2).2 j z hz
                cases z <;> first | exact h3 | cases y2
            refine ⟨_, hrun, _, hFz w' h' hd' (vs'.flatMap (fz2 s.blk)), rfl, toD_ok r' _ hR hfs (fun p hp => hp), r'.h0le.trans (hFz_le r' _), hFz_hw r' _, fun b hb => (hFz_base r' _ ?_ b hb).trans (r'.hbase b hb), r'.below⟩
            exact FzOk.flatMap vs' fun z => z
        rcases hex with rfl | rfl
        · exact key
        · exact key
      · cases e
end
end Vm
end Go.Proofs.Ytdjfaepokfdihaa
