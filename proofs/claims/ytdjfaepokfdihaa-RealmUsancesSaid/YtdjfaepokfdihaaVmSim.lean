/- The small machine's code, read from the front: what is left to do stands in a continuation. -/
import Derived.Test.YtdjfaepokfdihaaVmLim
set_option linter.unusedVariables false
namespace Go.Proofs.Ytdjfaepokfdihaa
namespace Vm
open Go.RowKit

section
variable {β : Type}
noncomputable def evK (T : Tbl) (c : SCode) (s : St) (k : Ex → St → Option β) : Option β := (ev T c s).bind fun p => k p.1 p.2
noncomputable def opsK (T : Tbl) (l : List SOper) (s : St) (k : St → Option β) : Option β := (runOps (call T) l s).bind k
noncomputable def opsD (T : Tbl) (l : List SOper) (ps : List (Nat × Nat)) (s : St) (k : St → Option β) : Option β := (runRegion (call T) l (some ps) s).bind k
def resK (r : Res) (k : V → List (Nat × Option Blk) → Option β) : Option β := match r with
  | some (v, wr) => k v wr
  | none => none
def condK (v : V) (x y : Option β) : Option β := match v with
  | .d (.bool b) => if b = true then x else y
  | _ => none
def guardK (v : V) (w : Bool) (x y : Option β) : Option β := match wantG v w with
  | .run => x
  | .skip => y
  | .bad => none
def seqK (k1 : St → Option β) (k : Ex → St → Option β) : Ex → St → Option β
  | .normal, s => k1 s
  | e, s => k e s
def blockK (id : Nat) (k : Ex → St → Option β) : Ex → St → Option β
  | .exit id', s => if id' = id then k .normal s else k (.exit id') s
  | e, s => k e s
def postK (m : Mask) (k : Ex → St → Option β) : Ex → St → Option β
  | .normal, s => k .normal (m.app s)
  | e, s => k e s
theorem resK_congr {r r' : Res} {k : V → List (Nat × Option Blk) → Option β} (h : r = r') : resK r k = resK r' k := by rw [h]
theorem condK_congr {v v' : V} {x y : Option β} (h : v = v') : condK v x y = condK v' x y := by rw [h]
theorem guardK_congr {v v' : V} {w : Bool} {x y : Option β} (h : v = v') : guardK v w x y = guardK v' w x y := by rw [h]
theorem resK_some (v : V) (wr : List (Nat × Option Blk)) (k : V → List (Nat × Option Blk) → Option β) : resK (some (v, wr)) k = k v wr := rfl
theorem resK_none (k : V → List (Nat × Option Blk) → Option β) : resK none k = none := rfl
theorem condK_bool (b : Bool) (x y : Option β) : condK (.d (.bool b)) x y = if b = true then x else y := rfl
theorem guardK_t (b : Bool) (x y : Option β) : guardK (.d (.bool b)) true x y = if b = true then x else y := by cases b <;> rfl
theorem guardK_f (b : Bool) (x y : Option β) : guardK (.d (.bool b)) false x y = if b = true then y else x := by cases b <;> rfl
theorem resK_ite (c : Prop) [Decidable c] (a b : Res) (k : V → List (Nat × Option Blk) → Option β) : resK (if c then a else b) k = if c then resK a k else resK b k := by split <;> rfl
theorem resK_map {α : Type} (o : Option α) (f : α → V) (k : V → List (Nat × Option Blk) → Option β) : resK (o.map fun x => (f x, [])) k = o.bind fun x => k (f x) [] := by cases o <;> rfl

variable {T : Tbl} {k : Ex → St → Option β}
theorem evK_skip (s : St) : evK T .skip s k = k .normal s := by unfold evK; rw [ev_skip]; rfl
theorem evK_exit (id : Nat) (s : St) : evK T (.exit id) s k = k (.exit id) s := by unfold evK; rw [ev_exit]; rfl
theorem evK_ret (s : St) : evK T .ret s k = k .ret s := by unfold evK; rw [ev_ret]; rfl
theorem evK_region (l : List SOper) (s : St) : evK T (.region l none) s k = opsK T l s (k .normal) := by
  unfold evK opsK
  rw [ev_region]
  simp only [runRegion]
  cases runOps (call T) l s <;> rfl
theorem evK_draw (l : List SOper) (ps : List (Nat × Nat)) (s : St) : evK T (.region l (some ps)) s k = opsD T l ps s (k .normal) := by
  unfold evK opsD
  rw [ev_region]
  cases runRegion (call T) l (some ps) s <;> rfl
theorem evK_seq (a b : SCode) (s : St) : evK T (.seq a b) s k = evK T a s (seqK (fun s' => evK T b s' k) k) := by
  unfold evK
  rw [ev_seq]
  cases ev T a s with
  | none => rfl
  | some r =>
    obtain ⟨e, s'⟩ := r
    cases e <;> rfl
theorem evK_cond (c : Opd) (a b : SCode) (s : St) : evK T (.cond c a b) s k = condK (evo s.get c) (evK T a s k) (evK T b s k) := by
  unfold evK
  rw [ev_cond]
  generalize evo s.get c = v
  cases v with
  | d x => cases x with
    | bool b => cases b <;> rfl
    | _ => rfl
  | _ => rfl
theorem evK_block (id : Nat) (a : SCode) (s : St) : evK T (.block id a) s k = evK T a s (blockK id k) := by
  unfold evK
  rw [ev_block]
  cases ev T a s with
  | none => rfl
  | some r =>
    obtain ⟨e, s'⟩ := r
    cases e with
    | normal => rfl
    | exit i =>
      simp only [Option.bind_some, blockK]
      by_cases h : i = id
      · simp [h]
      · simp [h]
    | ret => rfl
theorem evK_pre (m : Mask) (a : SCode) (s : St) : evK T (.pre m a) s k = evK T a (m.app s) k := rfl
theorem evK_post (m : Mask) (a : SCode) (s : St) : evK T (.post a m) s k = evK T a s (postK m k) := by
  unfold evK
  rw [ev_post]
  cases ev T a s with
  | none => rfl
  | some r =>
    obtain ⟨e, s'⟩ := r
    cases e <;> rfl
theorem evK_loop {S X : Type} {step : S → Option (S ⊕ X)} {c : SCode} (enc : S → St) (out : X → Ex × St) (hout : ∀ x s, out x ≠ (.normal, s))
    (h : ∀ s, evK T c (enc s) (fun e s' => some (e, s')) = stepR enc out (step s)) (s : S) :
    evK T (.loop c) (enc s) k = (Iter step s).bind fun x => k (out x).1 (out x).2 := by
  unfold evK
  rw [loop_sim enc out hout (fun s => by
    have := h s
    unfold evK at this
    rw [← this]
    cases ev T c (enc s) <;> rfl) s]
  cases Iter step s <;> rfl
theorem seqK_n (k1 : St → Option β) (k : Ex → St → Option β) (s : St) : seqK k1 k .normal s = k1 s := rfl
theorem seqK_e (k1 : St → Option β) (k : Ex → St → Option β) (i : Nat) (s : St) : seqK k1 k (.exit i) s = k (.exit i) s := rfl
theorem seqK_r (k1 : St → Option β) (k : Ex → St → Option β) (s : St) : seqK k1 k .ret s = k .ret s := rfl
theorem blockK_n (id : Nat) (k : Ex → St → Option β) (s : St) : blockK id k .normal s = k .normal s := rfl
theorem blockK_e (id : Nat) (k : Ex → St → Option β) (i : Nat) (s : St) : blockK id k (.exit i) s = if i = id then k .normal s else k (.exit i) s := rfl
theorem blockK_r (id : Nat) (k : Ex → St → Option β) (s : St) : blockK id k .ret s = k .ret s := rfl
theorem postK_n (m : Mask) (k : Ex → St → Option β) (s : St) : postK m k .normal s = k .normal (m.app s) := rfl
theorem postK_e (m : Mask) (k : Ex → St → Option β) (i : Nat) (s : St) : postK m k (.exit i) s = k (.exit i) s := rfl
theorem postK_r (m : Mask) (k : Ex → St → Option β) (s : St) : postK m k .ret s = k .ret s := rfl

theorem opsK_nil (s : St) (k : St → Option β) : opsK T [] s k = k s := rfl
theorem opsK_cons (d : Option Nat) (op : SOp) (l : List SOper) (s : St) (k : St → Option β) :
    opsK T (⟨d, op, none⟩ :: l) s k = resK (aop (call T) (d.getD 0) (evo s.get) s.blk op) fun v wr => opsK T l (s.put d v wr) k := by
  unfold opsK resK
  simp only [runOps, runOp, SOper.wants, SOper.site]
  cases aop (call T) (d.getD 0) (evo s.get) s.blk op with
  | none => rfl
  | some r => rfl
theorem opsK_guard (d : Option Nat) (op : SOp) (t : Nat) (b : Bool) (l : List SOper) (s : St) (k : St → Option β) :
    opsK T (⟨d, op, some (t, b)⟩ :: l) s k = guardK (s.get t) b (resK (aop (call T) (d.getD 0) (evo s.get) s.blk op) fun v wr => opsK T l (s.put d v wr) k) (opsK T l (s.put d (.tup []) []) k) := by
  unfold opsK resK guardK
  simp only [runOps, runOp, SOper.wants, SOper.site]
  cases wantG (s.get t) b with
  | run =>
    simp only
    cases aop (call T) (d.getD 0) (evo s.get) s.blk op with
    | none => rfl
    | some r => rfl
  | skip => rfl
  | bad => rfl

/-! drawn regions: what was touched is held against each other at the end -/
noncomputable def opsDK (T : Tbl) : List SOper → St → List Fp → (St → List Fp → Option β) → Option β
  | [], s, fp, k => k s fp
  | o :: l, s, fp, k => match runOpT (call T) o s with
    | some (s', p) => opsDK T l s' (p :: fp) k
    | none => none
theorem opsDK_eq (l : List SOper) (s : St) (fp : List Fp) (k : St → List Fp → Option β) : opsDK T l s fp k = (runOpsT (call T) l s).bind fun r => k r.1 (r.2.reverse ++ fp) := by
  induction l generalizing s fp with
  | nil => rfl
  | cons o l ih =>
    simp only [opsDK, runOpsT]
    cases runOpT (call T) o s with
    | none => rfl
    | some q =>
      obtain ⟨s', p⟩ := q
      simp only [ih]
      cases runOpsT (call T) l s' with
      | none => rfl
      | some r => obtain ⟨s'', ps⟩ := r; simp
def endD (l : List SOper) (ps : List (Nat × Nat)) (k : St → Option β) (s : St) (fp : List Fp) : Option β := if apartAll l fp.reverse ps = true then k s else none
theorem opsD_eq (l : List SOper) (ps : List (Nat × Nat)) (s : St) (k : St → Option β) : opsD T l ps s k = opsDK T l s [] (endD l ps k) := by
  rw [opsDK_eq]
  unfold opsD
  simp only [runRegion]
  cases runOpsT (call T) l s with
  | none => rfl
  | some r =>
    obtain ⟨s', fp⟩ := r
    simp only [Option.bind_some, endD, List.append_nil, List.reverse_reverse]
    cases h : apartAll l fp ps <;> simp
theorem opsDK_nil (s : St) (fp : List Fp) (k : St → List Fp → Option β) : opsDK T [] s fp k = k s fp := rfl
theorem opsDK_cons (d : Option Nat) (op : SOp) (l : List SOper) (s : St) (fp : List Fp) (k : St → List Fp → Option β) :
    opsDK T (⟨d, op, none⟩ :: l) s fp k = resK (aop (call T) (d.getD 0) (evo s.get) s.blk op) fun v wr => opsDK T l (s.put d v wr) (fpOf ⟨d, op, none⟩ s.get s.blk wr :: fp) k := by
  unfold resK
  simp only [opsDK, runOpT, SOper.wants, SOper.site]
  cases aop (call T) (d.getD 0) (evo s.get) s.blk op with
  | none => rfl
  | some r => rfl
theorem opsDK_guard (d : Option Nat) (op : SOp) (t : Nat) (b : Bool) (l : List SOper) (s : St) (fp : List Fp) (k : St → List Fp → Option β) :
    opsDK T (⟨d, op, some (t, b)⟩ :: l) s fp k = guardK (s.get t) b (resK (aop (call T) (d.getD 0) (evo s.get) s.blk op) fun v wr => opsDK T l (s.put d v wr) (fpOf ⟨d, op, some (t, b)⟩ s.get s.blk wr :: fp) k) (opsDK T l (s.put d (.tup []) []) (([], []) :: fp) k) := by
  unfold resK guardK
  simp only [opsDK, runOpT, SOper.wants, SOper.site]
  cases wantG (s.get t) b with
  | run =>
    simp only
    cases aop (call T) (d.getD 0) (evo s.get) s.blk op with
    | none => rfl
    | some r => rfl
  | skip => rfl
  | bad => rfl

/-! states that are written out -/
theorem put_some (fr : List (Nat × V)) (bl : List (Nat × Option Blk)) (d : Nat) (v : V) (wr : List (Nat × Option Blk)) : St.put ⟨fr, bl⟩ (some d) v wr = ⟨(d, v) :: fr, wr ++ bl⟩ := rfl
theorem put_none (fr : List (Nat × V)) (bl : List (Nat × Option Blk)) (v : V) (wr : List (Nat × Option Blk)) : St.put ⟨fr, bl⟩ none v wr = ⟨fr, wr ++ bl⟩ := rfl
theorem get_mk (fr : List (Nat × V)) (bl : List (Nat × Option Blk)) (t : Nat) : St.get ⟨fr, bl⟩ t = lk fr .any t := rfl
theorem blk_mk (fr : List (Nat × V)) (bl : List (Nat × Option Blk)) (i : Nat) : St.blk ⟨fr, bl⟩ i = lk bl none i := rfl
theorem lk_nil {α : Type} (d : α) (t : Nat) : lk [] d t = d := rfl
theorem lk_cons {α : Type} (k : Nat) (v : α) (l : List (Nat × α)) (d : α) (t : Nat) : lk ((k, v) :: l) d t = if t = k then v else lk l d t := rfl
theorem evo_t (fr : Nat → V) (n : Nat) : evo fr (.t n) = fr n := rfl
theorem evo_c (fr : Nat → V) (v : V) : evo fr (.c v) = v := rfl
theorem app_mk (live keep : List Nat) (s : St) : Mask.app ⟨live, keep, [], [], [], []⟩ s = keepS live keep s := rfl
theorem app_t (live keep : List Nat) (p : Nat × Nat × Nat × Nat) (l : List (Nat × Nat × Nat × Nat)) (c : List (Nat × Nat × Nat × Nat × Nat)) (ft : List Nat) (fc : List (Nat × Nat)) (s : St) : Mask.app ⟨live, keep, p :: l, c, ft, fc⟩ s = Mask.app ⟨live, keep, l, c, ft, fc⟩ (mkT p s) := rfl
theorem app_c (live keep : List Nat) (p : Nat × Nat × Nat × Nat × Nat) (c : List (Nat × Nat × Nat × Nat × Nat)) (ft : List Nat) (fc : List (Nat × Nat)) (s : St) : Mask.app ⟨live, keep, [], p :: c, ft, fc⟩ s = Mask.app ⟨live, keep, [], c, ft, fc⟩ (mkC p s) := rfl
theorem app_ft (live keep : List Nat) (p : Nat) (ft : List Nat) (fc : List (Nat × Nat)) (s : St) : Mask.app ⟨live, keep, [], [], p :: ft, fc⟩ s = Mask.app ⟨live, keep, [], [], ft, fc⟩ (frT p s) := rfl
theorem app_fc (live keep : List Nat) (p : Nat × Nat) (fc : List (Nat × Nat)) (s : St) : Mask.app ⟨live, keep, [], [], [], p :: fc⟩ s = Mask.app ⟨live, keep, [], [], [], fc⟩ (frC p s) := rfl
theorem keepS_mk (live keep : List Nat) (fr : List (Nat × V)) (bl : List (Nat × Option Blk)) : keepS live keep ⟨fr, bl⟩ = ⟨live.map fun t => (t, norm3 keep (lk bl none) (lk fr .any t)), keep.map fun i => (i, (lk bl none i).bind (normB keep (lk bl none)))⟩ := rfl
end
end Vm
end Go.Proofs.Ytdjfaepokfdihaa
