/- What code and calls answer at last; equations to reckon with. -/
import Derived.Test.YtdjfaepokfdihaaVmCall
set_option linter.unusedVariables false
namespace Go.Proofs.Ytdjfaepokfdihaa
namespace Vm
open Go.RowKit

/-! ### limits -/
noncomputable def lim {α : Type} (g : Nat → Option α) : Option α := @dite _ (∃ n x, g n = some x) (Classical.propDecidable _) (fun h => some h.choose_spec.choose) (fun _ => none)
def Mono {α : Type} (g : Nat → Option α) : Prop := ∀ n m x, n ≤ m → g n = some x → g m = some x
theorem lim_iff {α : Type} {g : Nat → Option α} (hg : Mono g) {x : α} : lim g = some x ↔ ∃ n, g n = some x := by
  unfold lim
  split
  · rename_i h
    have hs := h.choose_spec.choose_spec
    constructor
    · intro e; cases e; exact ⟨_, hs⟩
    · rintro ⟨n, hn⟩
      have h1 := hg _ (max h.choose n) _ (Nat.le_max_left _ _) hs
      have h2 := hg _ (max h.choose n) _ (Nat.le_max_right _ _) hn
      rw [h1] at h2
      exact h2
  · rename_i h
    constructor
    · intro e; cases e
    · rintro ⟨n, hn⟩; exact absurd ⟨n, x, hn⟩ h
theorem opt_ext {α : Type} {a b : Option α} (h : ∀ x, a = some x ↔ b = some x) : a = b := by
  cases a with
  | none => cases b with
    | none => rfl
    | some y => have := (h y).2 rfl; cases this
  | some x => exact ((h x).1 rfl).symm

def CLe (C D : Nat → List Vm.D → Option Vm.D) : Prop := ∀ f ds x, C f ds = some x → D f ds = some x
section
variable {C C' : Nat → List D → Option D}
theorem aop_mono (hc : CLe C C') {site : Nat} {ev : Opd → V} {bl : Nat → Option Blk} {so : SOp} {r : V × List (Nat × Option Blk)} (e : aop C site ev bl so = some r) : aop C' site ev bl so = some r := by
  cases so with
  | call f args =>
    simp only [aop] at e ⊢
    split at e
    · cases e
    · split at e
      · cases e
      · rename_i x hx
        rw [hc _ _ _ hx]
        exact e
  | callv g args =>
    simp only [aop] at e ⊢
    split at e
    · split at e
      · cases e
      · split at e
        · cases e
        · rename_i x hx
          rw [hc _ _ _ hx]
          exact e
    · cases e
  | _ => exact e
theorem runOpT_mono (hc : CLe C C') {o : SOper} {s : St} {r : St × Fp} (e : runOpT C o s = some r) : runOpT C' o s = some r := by
  unfold runOpT at e ⊢
  split at e
  · split at e
    · rename_i v wr ha
      rw [aop_mono hc ha]; exact e
    · cases e
  · exact e
  · cases e
theorem runOpsT_mono (hc : CLe C C') : ∀ {l : List SOper} {s : St} {r : St × List Fp}, runOpsT C l s = some r → runOpsT C' l s = some r
  | [], s, r, e => e
  | o :: l, s, r, e => by
    simp only [runOpsT] at e ⊢
    split at e
    · rename_i s' p h1
      rw [runOpT_mono hc h1]
      split at e
      · rename_i s'' ps h2
        simp only [runOpsT_mono hc h2]
        exact e
      · cases e
    · cases e
theorem runOp_eqT (o : SOper) (s : St) : runOp C o s = (runOpT C o s).map (·.1) := by
  unfold runOp runOpT
  cases o.wants s.get with
  | run =>
    simp only
    cases aop C o.site (evo s.get) s.blk o.op with
    | none => rfl
    | some r => rfl
  | skip => rfl
  | bad => rfl
theorem runOps_eqT : ∀ (l : List SOper) (s : St), runOps C l s = (runOpsT C l s).map (·.1)
  | [], s => rfl
  | o :: l, s => by
    simp only [runOps, runOpsT, runOp_eqT]
    cases runOpT C o s with
    | none => rfl
    | some r =>
      obtain ⟨s', p⟩ := r
      simp only [Option.map_some, runOps_eqT l s']
      cases runOpsT C l s' with
      | none => rfl
      | some q => rfl
theorem runRegion_mono (hc : CLe C C') {l : List SOper} {d : Option (List (Nat × Nat))} {s s' : St} (e : runRegion C l d s = some s') : runRegion C' l d s = some s' := by
  cases d with
  | none =>
    simp only [runRegion, runOps_eqT, Option.map_eq_some_iff] at e ⊢
    obtain ⟨r, h1, h2⟩ := e
    exact ⟨r, runOpsT_mono hc h1, h2⟩
  | some ps =>
    simp only [runRegion] at e ⊢
    split at e
    · rename_i h1
      rw [runOpsT_mono hc h1]; exact e
    · cases e
theorem loopN_mono {f g : St → Option (Ex × St)} (h : ∀ s r, f s = some r → g s = some r) : ∀ {n m : Nat} {s : St} {r : Ex × St}, n ≤ m → loopN f n s = some r → loopN g m s = some r
  | 0, m, s, r, _, e => by cases e
  | n + 1, 0, s, r, hle, e => by omega
  | n + 1, m + 1, s, r, hle, e => by
    simp only [loopN] at e ⊢
    cases hf : f s with
    | none => rw [hf] at e; cases e
    | some q =>
      obtain ⟨ex, s'⟩ := q
      rw [hf] at e
      rw [h s _ hf]
      cases ex with
      | normal => exact loopN_mono h (by omega) e
      | exit id => exact e
      | ret => exact e
theorem evalN_mono (hc : CLe C C') {n m : Nat} (hnm : n ≤ m) : ∀ (c : SCode) (s : St) (r : Ex × St), evalN C n c s = some r → evalN C' m c s = some r := by
  intro c
  induction c with
  | skip => exact fun s r e => e
  | region ops d =>
    intro s r e
    simp only [evalN] at e ⊢
    split at e
    · rename_i h1; rw [runRegion_mono hc h1]; exact e
    · cases e
  | seq a b iha ihb =>
    intro s r e
    simp only [evalN] at e ⊢
    cases ha : evalN C n a s with
    | none => rw [ha] at e; cases e
    | some q =>
      obtain ⟨ex, s'⟩ := q
      rw [ha] at e
      rw [iha s _ ha]
      cases ex with
      | normal => exact ihb _ _ e
      | exit id => exact e
      | ret => exact e
  | cond c a b iha ihb =>
    intro s r e
    simp only [evalN] at e ⊢
    split at e
    · exact iha _ _ e
    · exact ihb _ _ e
    · cases e
  | block id a iha =>
    intro s r e
    simp only [evalN] at e ⊢
    cases ha : evalN C n a s with
    | none => rw [ha] at e; cases e
    | some q => rw [ha] at e; rw [iha s _ ha]; exact e
  | loop a iha =>
    intro s r e
    simp only [evalN] at e ⊢
    exact loopN_mono iha hnm e
  | exit id => exact fun s r e => e
  | ret => exact fun s r e => e
  | pre m' a iha => exact fun s r e => iha _ _ e
  | post a m' iha =>
    intro s r e
    simp only [evalN] at e ⊢
    cases ha : evalN C n a s with
    | none => rw [ha] at e; cases e
    | some q => rw [ha] at e; rw [iha s _ ha]; exact e
end
theorem callN_step (T : Tbl) : ∀ (n f : Nat) (ds : List D) (x : D), callN T n f ds = some x → callN T (n + 1) f ds = some x
  | 0, f, ds, x, e => by cases e
  | n + 1, f, ds, x, e => by
    rw [callN] at e ⊢
    cases hT : T f with
    | none => rw [hT] at e; cases e
    | some d =>
      rw [hT] at e
      cases d with
      | told o => exact e
      | code sf =>
      simp only at e ⊢
      split at e
      · rename_i hl
        rw [if_pos hl]
        cases he : evalN (callN T n) n sf.body ⟨initFr 0 ds, []⟩ with
        | none => rw [he] at e; cases e
        | some q =>
          rw [he] at e
          rw [evalN_mono (callN_step T n) (Nat.le_succ n) _ _ _ he]
          exact e
      · cases e
theorem callN_mono (T : Tbl) {n m : Nat} (h : n ≤ m) : CLe (callN T n) (callN T m) := by
  induction h with
  | refl => exact fun _ _ _ e => e
  | step _ ih => exact fun f ds x e => callN_step T _ f ds x (ih f ds x e)

/-- what a call answers -/
noncomputable def call (T : Tbl) (f : Nat) (ds : List D) : Option D := lim fun n => callN T n f ds
/-- what code comes to -/
noncomputable def ev (T : Tbl) (c : SCode) (s : St) : Option (Ex × St) := lim fun n => evalN (callN T n) n c s
theorem call_iff {T : Tbl} {f : Nat} {ds : List D} {x : D} : call T f ds = some x ↔ ∃ n, callN T n f ds = some x := lim_iff fun _ _ _ h e => callN_mono T h _ _ _ e
theorem ev_iff {T : Tbl} {c : SCode} {s : St} {r : Ex × St} : ev T c s = some r ↔ ∃ n, evalN (callN T n) n c s = some r := lim_iff fun _ _ _ h e => evalN_mono (callN_mono T h) h _ _ _ e
theorem call_sound {P : Program} {T : Tbl} (hT : ∀ f sf, T f = some (.code sf) → ∃ fn, P.funcs[f]? = some fn ∧ Lows P fn sf) (hO : ∀ f o, T f = some (.told o) → ∀ ds x, o ds = some x → Sound P f ds x) (hm : P.follows .mixedOrders = true) {f : Nat} {ds : List D} {x : D} (e : call T f ds = some x) : Sound P f ds x := by
  obtain ⟨n, hn⟩ := call_iff.1 e
  exact call_ok T hT hO hm n f ds x hn

section
variable {T : Tbl}
theorem callN_le (n : Nat) : CLe (callN T n) (call T) := fun f ds x e => call_iff.2 ⟨n, e⟩
theorem aop_lim {site : Nat} {evv : Opd → V} {bl : Nat → Option Blk} {so : SOp} {r : V × List (Nat × Option Blk)} (e : aop (call T) site evv bl so = some r) : ∃ n, aop (callN T n) site evv bl so = some r := by
  cases so with
  | call f args =>
    simp only [aop] at e ⊢
    split at e
    · cases e
    · rename_i ds hds
      split at e
      · cases e
      · rename_i x hx
        obtain ⟨n, hn⟩ := call_iff.1 hx
        exact ⟨n, by rw [hn]; exact e⟩
  | callv g args =>
    simp only [aop] at e ⊢
    split at e
    · split at e
      · cases e
      · split at e
        · cases e
        · rename_i x hx
          obtain ⟨n, hn⟩ := call_iff.1 hx
          exact ⟨n, by rw [hn]; exact e⟩
    · cases e
  | _ => exact ⟨0, e⟩
theorem runOpT_lim {o : SOper} {s : St} {r : St × Fp} (e : runOpT (call T) o s = some r) : ∃ n, runOpT (callN T n) o s = some r := by
  unfold runOpT at e ⊢
  split at e
  · split at e
    · rename_i v wr ha
      obtain ⟨n, hn⟩ := aop_lim ha
      exact ⟨n, by rw [hn]; exact e⟩
    · cases e
  · exact ⟨0, e⟩
  · cases e
theorem runOpsT_lim : ∀ {l : List SOper} {s : St} {r : St × List Fp}, runOpsT (call T) l s = some r → ∃ n, runOpsT (callN T n) l s = some r
  | [], s, r, e => ⟨0, e⟩
  | o :: l, s, r, e => by
    simp only [runOpsT] at e ⊢
    split at e
    · rename_i s' p h1
      split at e
      · rename_i s'' ps h2
        obtain ⟨n1, g1⟩ := runOpT_lim h1
        obtain ⟨n2, g2⟩ := runOpsT_lim h2
        refine ⟨max n1 n2, ?_⟩
        rw [runOpT_mono (callN_mono T (Nat.le_max_left n1 n2)) g1]
        simp only [runOpsT_mono (callN_mono T (Nat.le_max_right n1 n2)) g2]
        exact e
      · cases e
    · cases e
theorem runRegion_lim {l : List SOper} {d : Option (List (Nat × Nat))} {s s' : St} : runRegion (call T) l d s = some s' ↔ ∃ n, runRegion (callN T n) l d s = some s' := by
  constructor
  · intro e
    cases d with
    | none =>
      simp only [runRegion, runOps_eqT, Option.map_eq_some_iff] at e ⊢
      obtain ⟨r, h1, h2⟩ := e
      obtain ⟨n, hn⟩ := runOpsT_lim h1
      exact ⟨n, r, hn, h2⟩
    | some ps =>
      simp only [runRegion] at e ⊢
      split at e
      · rename_i h1
        obtain ⟨n, hn⟩ := runOpsT_lim h1
        exact ⟨n, by rw [hn]; exact e⟩
      · cases e
  · rintro ⟨n, hn⟩; exact runRegion_mono (callN_le n) hn

theorem ev_skip (s : St) : ev T .skip s = some (.normal, s) := ev_iff.2 ⟨0, rfl⟩
theorem ev_exit (id : Nat) (s : St) : ev T (.exit id) s = some (.exit id, s) := ev_iff.2 ⟨0, rfl⟩
theorem ev_ret (s : St) : ev T .ret s = some (.ret, s) := ev_iff.2 ⟨0, rfl⟩
theorem ev_region (l : List SOper) (d : Option (List (Nat × Nat))) (s : St) : ev T (.region l d) s = (runRegion (call T) l d s).map fun s' => (.normal, s') := by
  refine opt_ext fun r => ?_
  rw [ev_iff, Option.map_eq_some_iff]
  constructor
  · rintro ⟨n, hn⟩
    simp only [evalN] at hn
    split at hn
    · rename_i s' h1; cases hn; exact ⟨s', runRegion_lim.2 ⟨n, h1⟩, rfl⟩
    · cases hn
  · rintro ⟨s', h1, rfl⟩
    obtain ⟨n, hn⟩ := runRegion_lim.1 h1
    exact ⟨n, by simp only [evalN, hn]⟩
theorem ev_seq (a b : SCode) (s : St) : ev T (.seq a b) s = (match ev T a s with | some (.normal, s') => ev T b s' | r => r) := by
  refine opt_ext fun r => ?_
  rw [ev_iff]
  constructor
  · rintro ⟨n, hn⟩
    simp only [evalN] at hn
    cases ha : evalN (callN T n) n a s with
    | none => rw [ha] at hn; cases hn
    | some q =>
      obtain ⟨ex, s'⟩ := q
      rw [ha] at hn
      rw [ev_iff.2 ⟨n, ha⟩]
      cases ex with
      | normal => exact ev_iff.2 ⟨n, hn⟩
      | exit id => exact hn
      | ret => exact hn
  · intro e
    cases ha : ev T a s with
    | none => rw [ha] at e; cases e
    | some q =>
      obtain ⟨ex, s'⟩ := q
      rw [ha] at e
      obtain ⟨n1, g1⟩ := ev_iff.1 ha
      cases ex with
      | normal =>
        obtain ⟨n2, g2⟩ := ev_iff.1 e
        refine ⟨max n1 n2, ?_⟩
        simp only [evalN, evalN_mono (callN_mono T (Nat.le_max_left n1 n2)) (Nat.le_max_left n1 n2) _ _ _ g1]
        exact evalN_mono (callN_mono T (Nat.le_max_right n1 n2)) (Nat.le_max_right n1 n2) _ _ _ g2
      | exit id => exact ⟨n1, by simp only [evalN, g1]; exact e⟩
      | ret => exact ⟨n1, by simp only [evalN, g1]; exact e⟩
theorem ev_cond (c : Opd) (a b : SCode) (s : St) : ev T (.cond c a b) s = (match evo s.get c with | .d (.bool true) => ev T a s | .d (.bool false) => ev T b s | _ => none) := by
  refine opt_ext fun r => ?_
  rw [ev_iff]
  simp only [evalN]
  generalize evo s.get c = v
  cases v with
  | d x => cases x with
    | bool b => cases b <;> exact ev_iff.symm
    | _ => simp
  | _ => simp
theorem ev_block (id : Nat) (a : SCode) (s : St) : ev T (.block id a) s = (match ev T a s with | some (.exit id', s') => if id' = id then some (.normal, s') else some (.exit id', s') | r => r) := by
  refine opt_ext fun r => ?_
  rw [ev_iff]
  constructor
  · rintro ⟨n, hn⟩
    simp only [evalN] at hn
    cases ha : evalN (callN T n) n a s with
    | none => rw [ha] at hn; cases hn
    | some q => rw [ha] at hn; rw [ev_iff.2 ⟨n, ha⟩]; exact hn
  · intro e
    cases ha : ev T a s with
    | none => rw [ha] at e; cases e
    | some q =>
      rw [ha] at e
      obtain ⟨n1, g1⟩ := ev_iff.1 ha
      exact ⟨n1, by simp only [evalN, g1]; exact e⟩
theorem ev_pre (m : Mask) (a : SCode) (s : St) : ev T (.pre m a) s = ev T a (m.app s) := rfl
theorem ev_post (m : Mask) (a : SCode) (s : St) : ev T (.post a m) s = (match ev T a s with | some (.normal, s') => some (.normal, m.app s') | r => r) := by
  refine opt_ext fun r => ?_
  rw [ev_iff]
  constructor
  · rintro ⟨n, hn⟩
    simp only [evalN] at hn
    cases ha : evalN (callN T n) n a s with
    | none => rw [ha] at hn; cases hn
    | some q => rw [ha] at hn; rw [ev_iff.2 ⟨n, ha⟩]; exact hn
  · intro e
    cases ha : ev T a s with
    | none => rw [ha] at e; cases e
    | some q =>
      rw [ha] at e
      obtain ⟨n1, g1⟩ := ev_iff.1 ha
      exact ⟨n1, by simp only [evalN, g1]; exact e⟩
theorem ev_loop (a : SCode) (s : St) : ev T (.loop a) s = (match ev T a s with | some (.normal, s') => ev T (.loop a) s' | r => r) := by
  refine opt_ext fun r => ?_
  rw [ev_iff]
  constructor
  · rintro ⟨n, hn⟩
    simp only [evalN] at hn
    cases n with
    | zero => cases hn
    | succ n =>
      simp only [loopN] at hn
      cases ha : evalN (callN T (n + 1)) (n + 1) a s with
      | none => rw [ha] at hn; cases hn
      | some q =>
        obtain ⟨ex, s'⟩ := q
        rw [ha] at hn
        rw [ev_iff.2 ⟨n + 1, ha⟩]
        cases ex with
        | normal => exact ev_iff.2 ⟨n + 1, by simp only [evalN]; exact loopN_mono (fun _ _ e => e) (Nat.le_succ n) hn⟩
        | exit id => exact hn
        | ret => exact hn
  · intro e
    cases ha : ev T a s with
    | none => rw [ha] at e; cases e
    | some q =>
      obtain ⟨ex, s'⟩ := q
      rw [ha] at e
      obtain ⟨n1, g1⟩ := ev_iff.1 ha
      cases ex with
      | normal =>
        obtain ⟨n2, g2⟩ := ev_iff.1 e
        refine ⟨max n1 n2 + 1, ?_⟩
        have h1 := evalN_mono (callN_mono T (show n1 ≤ max n1 n2 + 1 by omega)) (show n1 ≤ max n1 n2 + 1 by omega) _ _ _ g1
        simp only [evalN, loopN, h1]
        simp only [evalN] at g2
        exact loopN_mono (fun s r e => evalN_mono (callN_mono T (show n2 ≤ max n1 n2 + 1 by omega)) (show n2 ≤ max n1 n2 + 1 by omega) _ _ _ e) (show n2 ≤ max n1 n2 by omega) g2
      | exit id => exact ⟨n1 + 1, by simp only [evalN, loopN, evalN_mono (callN_mono T (Nat.le_succ n1)) (Nat.le_succ n1) _ _ _ g1]; exact e⟩
      | ret => exact ⟨n1 + 1, by simp only [evalN, loopN, evalN_mono (callN_mono T (Nat.le_succ n1)) (Nat.le_succ n1) _ _ _ g1]; exact e⟩
theorem call_told {f : Nat} {o : List D → Option D} (hf : T f = some (.told o)) (ds : List D) : call T f ds = o ds := by
  refine opt_ext fun x => ?_
  rw [call_iff]
  constructor
  · rintro ⟨n, hn⟩
    cases n with
    | zero => cases hn
    | succ n => simpa only [callN, hf] using hn
  · intro e
    exact ⟨1, by simpa only [callN, hf] using e⟩
theorem call_eq {f : Nat} {sf : SFunc} (hf : T f = some (.code sf)) (ds : List D) (hl : ds.length = sf.np) : call T f ds = (match ev T sf.body ⟨initFr 0 ds, []⟩ with
    | some (.normal, s) => finish sf s
    | some (.ret, s) => finish sf s
    | _ => none) := by
  refine opt_ext fun x => ?_
  rw [call_iff]
  constructor
  · rintro ⟨n, hn⟩
    cases n with
    | zero => cases hn
    | succ n =>
      simp only [callN, hf, if_pos hl] at hn
      cases he : evalN (callN T n) n sf.body ⟨initFr 0 ds, []⟩ with
      | none => rw [he] at hn; cases hn
      | some q => rw [he] at hn; rw [ev_iff.2 ⟨n, he⟩]; exact hn
  · intro e
    cases he : ev T sf.body ⟨initFr 0 ds, []⟩ with
    | none => rw [he] at e; cases e
    | some q =>
      rw [he] at e
      obtain ⟨n, hn⟩ := ev_iff.1 he
      exact ⟨n + 1, by simp only [callN, hf, if_pos hl, hn]; exact e⟩
end

/-! ### loops over plain states -/
def iterN {S X : Type} (step : S → Option (S ⊕ X)) : Nat → S → Option X
  | 0, _ => none
  | n + 1, s => match step s with
    | none => none
    | some (.inl s') => iterN step n s'
    | some (.inr x) => some x
noncomputable def Iter {S X : Type} (step : S → Option (S ⊕ X)) (s : S) : Option X := lim fun n => iterN step n s
section
variable {S X : Type} {step : S → Option (S ⊕ X)}
theorem iterN_mono : ∀ (n m : Nat) (s : S) (x : X), n ≤ m → iterN step n s = some x → iterN step m s = some x
  | 0, m, s, x, _, e => by cases e
  | n + 1, 0, s, x, h, e => by omega
  | n + 1, m + 1, s, x, h, e => by
    simp only [iterN] at e ⊢
    split at e
    · cases e
    · exact iterN_mono n m _ x (by omega) e
    · exact e
theorem iter_iff {s : S} {x : X} : Iter step s = some x ↔ ∃ n, iterN step n s = some x := lim_iff fun n m x h e => iterN_mono n m _ x h e
theorem iter_eq (s : S) : Iter step s = (match step s with | none => none | some (.inl s') => Iter step s' | some (.inr x) => some x) := by
  refine opt_ext fun x => ?_
  rw [iter_iff]
  constructor
  · rintro ⟨n, hn⟩
    cases n with
    | zero => cases hn
    | succ n =>
      simp only [iterN] at hn
      cases hs : step s with
      | none => rw [hs] at hn; cases hn
      | some q =>
        rw [hs] at hn
        cases q with
        | inl s' => exact iter_iff.2 ⟨n, hn⟩
        | inr y => exact hn
  · intro e
    cases hs : step s with
    | none => rw [hs] at e; cases e
    | some q =>
      rw [hs] at e
      cases q with
      | inl s' => obtain ⟨n, hn⟩ := iter_iff.1 e; exact ⟨n + 1, by simp only [iterN, hs]; exact hn⟩
      | inr y => exact ⟨1, by simp only [iterN, hs]; exact e⟩
/-- what a plain step says of code -/
def stepR (enc : S → St) (out : X → Ex × St) : Option (S ⊕ X) → Option (Ex × St)
  | none => none
  | some (.inl s') => some (.normal, enc s')
  | some (.inr x) => some (out x)
/-- a loop whose rounds are a plain step -/
theorem loop_sim {T : Tbl} {c : SCode} (enc : S → St) (out : X → Ex × St) (hout : ∀ x s, out x ≠ (.normal, s)) (h : ∀ s, ev T c (enc s) = stepR enc out (step s)) (s : S) :
    ev T (.loop c) (enc s) = (Iter step s).map out := by
  refine opt_ext fun r => ?_
  rw [Option.map_eq_some_iff]
  constructor
  · intro e
    obtain ⟨n, hn⟩ := ev_iff.1 e
    simp only [evalN] at hn
    generalize hk : (n : Nat) = k at hn
    have key : ∀ (k : Nat) (s : S), loopN (evalN (callN T n) n c) k (enc s) = some r → ∃ x, iterN step k s = some x ∧ out x = r := by
      intro k
      induction k with
      | zero => intro s e; cases e
      | succ k ih =>
        intro s e
        simp only [loopN] at e
        cases hc : evalN (callN T n) n c (enc s) with
        | none => rw [hc] at e; cases e
        | some q =>
          have h1 := ev_iff.2 ⟨n, hc⟩
          rw [h s] at h1
          rw [hc] at e
          simp only [iterN]
          cases hs : step s with
          | none => rw [hs] at h1; cases h1
          | some y =>
            rw [hs] at h1
            cases y with
            | inl s' =>
              obtain rfl := Option.some.inj h1
              exact ih s' e
            | inr x =>
              simp only [stepR, Option.some.injEq] at h1
              refine ⟨x, rfl, ?_⟩
              obtain ⟨ex, s'⟩ := q
              cases ex with
              | normal => exact absurd h1 (hout x s')
              | exit id => rw [h1]; exact Option.some.inj e
              | ret => rw [h1]; exact Option.some.inj e
    subst hk
    obtain ⟨x, g1, g2⟩ := key n s hn
    exact ⟨x, iter_iff.2 ⟨n, g1⟩, g2⟩
  · rintro ⟨x, h1, rfl⟩
    obtain ⟨n, hn⟩ := iter_iff.1 h1
    clear h1
    induction n generalizing s with
    | zero => cases hn
    | succ n ih =>
      simp only [iterN] at hn
      rw [ev_loop, h s]
      cases hs : step s with
      | none => rw [hs] at hn; cases hn
      | some q =>
        rw [hs] at hn
        cases q with
        | inl s' => exact ih s' hn
        | inr y =>
          obtain rfl := Option.some.inj hn
          simp only [stepR]
          cases ho : out y with
          | mk ex s' =>
            cases ex with
            | normal => exact absurd ho (hout y s')
            | exit id => rfl
            | ret => rfl
end
end Vm
end Go.Proofs.Ytdjfaepokfdihaa
