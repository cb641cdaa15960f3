/- The small machine, read from the front: regions whose order is drawn. -/
import Derived.Test.YtdjfaepokfdihaaVmFast2
set_option linter.unusedVariables false
namespace Go.Proofs.Ytdjfaepokfdihaa
namespace Vm
open Go.RowKit

section
variable {β : Type} {T : Tbl}
/-- what an operation looks at -/
def fpK (d : Nat) (op : SOp) (fr : List (Nat × V)) (bl : List (Nat × Option Blk)) (k : List Nat → Option β) : Option β :=
  k ((if op.new = true then [d] else []) ++ ((op.peeks.flatMap fun x => (evo (lk fr .any) x).ids) ++ op.deeps.flatMap fun x => (evo (lk fr .any) x).dids (lk bl none)))
/-- what is written -/
def widsK (wr : List (Nat × Option Blk)) (k : List Nat → Option β) : Option β := k (wr.map (·.1))
theorem widsK_nil (k : List Nat → Option β) : widsK [] k = k [] := rfl
theorem widsK_c (i : Nat) (b : Option Blk) (w : List (Nat × Option Blk)) (k : List Nat → Option β) : widsK ((i, b) :: w) k = widsK w fun l => k (i :: l) := rfl
theorem widsK_an (w : List (Nat × Option Blk)) (k : List Nat → Option β) : widsK ([] ++ w) k = widsK w k := rfl
theorem widsK_ac (p : Nat × Option Blk) (v w : List (Nat × Option Blk)) (k : List Nat → Option β) : widsK ((p :: v) ++ w) k = widsK (p :: (v ++ w)) k := rfl
theorem widsK_aa (u v w : List (Nat × Option Blk)) (k : List Nat → Option β) : widsK ((u ++ v) ++ w) k = widsK (u ++ (v ++ w)) k := by rw [List.append_assoc]
theorem opsDF_cons (d : Nat) (op : SOp) (l : List SOper) (fr : List (Nat × V)) (bl : List (Nat × Option Blk)) (fp : List Fp) (k : St → List Fp → Option β) :
    opsDK T (⟨some d, op, none⟩ :: l) ⟨fr, bl⟩ fp k = opK T d op fr bl (fun v => fpK d op fr bl fun f => opsDK T l ⟨(d, v) :: fr, bl⟩ ((f, []) :: fp) k) (fun v wr => widsK wr fun ws => fpK d op fr bl fun f => opsDK T l ⟨(d, v) :: fr, wr ++ bl⟩ ((f, ws) :: fp) k) := by
  rw [opsDK_cons]
  unfold opK resK fpK
  show (match aop (call T) d (evo (lk fr .any)) (lk bl none) op with | some (v, wr) => _ | none => none) = _
  cases aop (call T) d (evo (lk fr .any)) (lk bl none) op with
  | none => rfl
  | some r => obtain ⟨v, wr⟩ := r; cases wr <;> rfl
theorem opsDF_cons0 (op : SOp) (l : List SOper) (fr : List (Nat × V)) (bl : List (Nat × Option Blk)) (fp : List Fp) (k : St → List Fp → Option β) :
    opsDK T (⟨none, op, none⟩ :: l) ⟨fr, bl⟩ fp k = opK T 0 op fr bl (fun _ => fpK 0 op fr bl fun f => opsDK T l ⟨fr, bl⟩ ((f, []) :: fp) k) (fun _ wr => widsK wr fun ws => fpK 0 op fr bl fun f => opsDK T l ⟨fr, wr ++ bl⟩ ((f, ws) :: fp) k) := by
  rw [opsDK_cons]
  unfold opK resK fpK
  show (match aop (call T) 0 (evo (lk fr .any)) (lk bl none) op with | some (v, wr) => _ | none => none) = _
  cases aop (call T) 0 (evo (lk fr .any)) (lk bl none) op with
  | none => rfl
  | some r => obtain ⟨v, wr⟩ := r; cases wr <;> rfl
theorem opsDF_nil (fr : List (Nat × V)) (bl : List (Nat × Option Blk)) (fp : List Fp) (k : St → List Fp → Option β) : opsDK T [] ⟨fr, bl⟩ fp k = k ⟨fr, bl⟩ fp := rfl
theorem endD_ok {l : List SOper} {ps : List (Nat × Nat)} {s : St} {fp : List Fp} (k : St → Option β) (h : apartAll l fp.reverse ps = true) : endD l ps k s fp = k s := if_pos h
/-! guards -/
theorem specP_fp {d : Option Nat} {g g' : Option (Nat × Bool)} {fr : Nat → V} {bl : Nat → Option Blk} {wr : List (Nat × Option Blk)} (t : Nat) (b : Bool) (op : SOp) : fpOf ⟨d, specP t b op, g⟩ fr bl wr = fpOf ⟨d, op, g'⟩ fr bl wr := by
  cases op with
  | pick c x y =>
    cases c with
    | t t' =>
      simp only [specP]
      split <;> rfl
    | c v => rfl
  | _ => rfl
theorem specO_runT {C : Nat → List D → Option D} {s : St} {t : Nat} {b : Bool} (h : s.get t = .d (.bool b)) (o : SOper) : runOpT C (specO t b o) s = runOpT C o s := by
  obtain ⟨d, op, g⟩ := o
  cases g with
  | some g =>
    obtain ⟨t', w⟩ := g
    simp only [specO]
    split
    · rename_i e
      subst e
      split
      · rename_i e
        subst e
        simp only [runOpT, SOper.wants, h, SOper.site, specP_aop h]
        cases w <;> simp only [wantG] <;> cases aop C (d.getD 0) (evo s.get) s.blk op <;> first | rfl | (simp [specP_fp (g' := some (t', false)), specP_fp (g' := some (t', true))]; done) | (simp [specP_fp (g' := some (t', false)), specP_fp (g' := some (t', true))]; rfl)
      · rename_i e
        simp only [runOpT, SOper.wants, h, SOper.site, aop, evo]
        cases w <;> cases b <;> simp_all [wantG, fpOf, SOp.new, SOp.peeks, SOp.deeps]
    · simp only [runOpT, SOper.wants, SOper.site, specP_aop h]
      cases wantG (s.get t') w <;> simp only [] <;> cases aop C (d.getD 0) (evo s.get) s.blk op <;> simp [specP_fp (g' := some (t', w))]
  | none =>
    simp only [specO, runOpT, SOper.wants, SOper.site, specP_aop h]
    cases aop C (d.getD 0) (evo s.get) s.blk op <;> simp [specP_fp (g' := none)]
theorem runOpT_get {C : Nat → List D → Option D} {o : SOper} {s s' : St} {p : Fp} {t : Nat} (h : ¬ o.dst = some t) (e : runOpT C o s = some (s', p)) : s'.get t = s.get t := by
  unfold runOpT at e
  split at e
  · split at e
    · cases e; exact get_put_ne h
    · cases e
  · cases e; exact get_put_ne h
  · cases e
theorem specL_runD {t : Nat} {b : Bool} : ∀ (l : List SOper) {s : St} (fp : List Fp) (k : St → List Fp → Option β) (h : s.get t = .d (.bool b)), opsDK T (specL t b l) s fp k = opsDK T l s fp k
  | [], s, fp, k, h => rfl
  | o :: l, s, fp, k, h => by
    simp only [specL, opsDK, specO_runT h]
    cases e : runOpT (call T) o s with
    | none => rfl
    | some q =>
      obtain ⟨s', p⟩ := q
      simp only
      split
      · rfl
      · rename_i hd
        exact specL_runD l _ k (by rw [runOpT_get hd e]; exact h)
noncomputable def guardDL (T : Tbl) (v : V) (t : Nat) (l : List SOper) (s : St) (fp : List Fp) (k : St → List Fp → Option β) : Option β := match v with
  | .d (.bool b) => if b = true then opsDK T (specL t true l) s fp k else opsDK T (specL t false l) s fp k
  | .tup [] => match l with
    | o :: r => opsDK T r (s.put o.dst (.tup []) []) (([], []) :: fp) k
    | [] => none
  | _ => none
theorem opsDF_guard (d : Option Nat) (op : SOp) (t : Nat) (w : Bool) (l : List SOper) (fr : List (Nat × V)) (bl : List (Nat × Option Blk)) (fp : List Fp) (k : St → List Fp → Option β) :
    opsDK T (⟨d, op, some (t, w)⟩ :: l) ⟨fr, bl⟩ fp k = getK fr t fun v => guardDL T v t (⟨d, op, some (t, w)⟩ :: l) ⟨fr, bl⟩ fp k := by
  show _ = guardDL T (lk fr .any t) t _ _ fp k
  generalize hv : lk fr .any t = v
  have bad : ∀ (q : wantG v w = .bad), opsDK T (⟨d, op, some (t, w)⟩ :: l) ⟨fr, bl⟩ fp k = none := by
    intro q
    simp only [opsDK, runOpT, SOper.wants]
    rw [show (St.get ⟨fr, bl⟩ t) = v from hv, q]
  cases v with
  | d x =>
    cases x with
    | bool b =>
      simp only [guardDL]
      cases b with
      | true => rw [if_pos rfl, specL_runD (t := t) (b := true) (s := ⟨fr, bl⟩) _ _ _ hv]
      | false => rw [if_neg (by decide), specL_runD (t := t) (b := false) (s := ⟨fr, bl⟩) _ _ _ hv]
    | _ => exact bad rfl
  | tup vs =>
    cases vs with
    | nil =>
      simp only [guardDL, opsDK, runOpT, SOper.wants]
      rw [show (St.get ⟨fr, bl⟩ t) = _ from hv]
      rfl
    | cons x l => exact bad rfl
  | _ => exact bad rfl
theorem guardDL_b (b : Bool) (t : Nat) (l : List SOper) (s : St) (fp : List Fp) (k : St → List Fp → Option β) : guardDL T (.d (.bool b)) t l s fp k = if b = true then opsDK T (specL t true l) s fp k else opsDK T (specL t false l) s fp k := rfl
theorem guardDL_u (t d : Nat) (op : SOp) (g : Option (Nat × Bool)) (l : List SOper) (fr : List (Nat × V)) (bl : List (Nat × Option Blk)) (fp : List Fp) (k : St → List Fp → Option β) : guardDL T (.tup []) t (⟨some d, op, g⟩ :: l) ⟨fr, bl⟩ fp k = opsDK T l ⟨(d, .tup []) :: fr, bl⟩ (([], []) :: fp) k := rfl
theorem guardDL_u0 (t : Nat) (op : SOp) (g : Option (Nat × Bool)) (l : List SOper) (fr : List (Nat × V)) (bl : List (Nat × Option Blk)) (fp : List Fp) (k : St → List Fp → Option β) : guardDL T (.tup []) t (⟨none, op, g⟩ :: l) ⟨fr, bl⟩ fp k = opsDK T l ⟨fr, bl⟩ (([], []) :: fp) k := rfl
theorem opsDK_congr {l l' : List SOper} {s : St} {fp : List Fp} {k : St → List Fp → Option β} (h : l = l') : opsDK T l s fp k = opsDK T l' s fp k := by rw [h]
theorem dgetL_z (x : D) (ds : List D) (k : D → Option β) : dgetK (x :: ds) 0 k = k x := rfl
theorem dgetL_s (x : D) (ds : List D) (n : Nat) (k : D → Option β) : dgetK (x :: ds) (n + 1) k = dgetK ds n k := rfl
/-! what is looked at, operation by operation -/
section
variable {d : Nat} {fr : List (Nat × V)} {bl : List (Nat × Option Blk)} {k : List Nat → Option β}
def idsK (v : V) (k : List Nat → Option β) : Option β := k v.ids
theorem idsK_d (x : D) : idsK (.d x) k = k [] := rfl
theorem idsK_nil : idsK .nil k = k [] := rfl
theorem idsK_any : idsK .any k = k [] := rfl
theorem idsK_ptr (i o : Nat) : idsK (.ptr i o) k = k [i] := rfl
theorem idsK_own (i o : Nat) : idsK (.own i o) k = k [i] := rfl
theorem idsK_orow (i v j o : Nat) : idsK (.orow i v j o) k = k [i] := rfl
def didsCK (bl : List (Nat × Option Blk)) : List V → (List Nat → Option β) → Option β
  | [], k => k []
  | c :: cs, k => k (c.dids1 (lk bl none) ++ cs.flatMap (V.dids1 (lk bl none)))
def didsK (bl : List (Nat × Option Blk)) (v : V) (k : List Nat → Option β) : Option β := k (v.dids (lk bl none))
theorem didsCK_eq (cs : List V) : didsCK bl cs k = k (cs.flatMap (V.dids1 (lk bl none))) := by cases cs <;> rfl
theorem didsCK_nil : didsCK bl [] k = k [] := rfl
theorem didsCK_d (x : D) (cs : List V) : didsCK bl (.d x :: cs) k = didsCK bl cs k := by simp only [didsCK_eq]; rfl
theorem didsCK_n (cs : List V) : didsCK bl (.nil :: cs) k = didsCK bl cs k := by simp only [didsCK_eq]; rfl
theorem didsCK_any (cs : List V) : didsCK bl (.any :: cs) k = didsCK bl cs k := by simp only [didsCK_eq]; rfl
theorem didsCK_own (i o : Nat) (cs : List V) : didsCK bl (.own i o :: cs) k = didsCK bl cs fun l => k (i :: l) := by simp only [didsCK_eq]; rfl
theorem didsK_d (x : D) : didsK bl (.d x) k = k [] := rfl
theorem didsK_nil : didsK bl .nil k = k [] := rfl
theorem didsK_own (i o : Nat) : didsK bl (.own i o) k = k [i] := rfl
theorem didsK_agg (cs : List V) : didsK bl (.agg cs) k = didsCK bl cs k := by rw [didsCK_eq]; rfl
theorem dids_dcells (ds : List D) : (dcells ds).flatMap (V.dids1 (lk bl none)) = [] := by
  induction ds with
  | nil => rfl
  | cons x ds ih => exact ih
theorem didsK_aggD (ds : List D) : didsK bl (aggD ds) k = k [] := by
  show k ((dcells ds).flatMap (V.dids1 (lk bl none))) = _
  rw [dids_dcells]
theorem ids1_dcells (ds : List D) : (dcells ds).flatMap V.ids1 = [] := by
  induction ds with
  | nil => rfl
  | cons x ds ih => exact ih
def bidsCK : List V → (List Nat → Option β) → Option β
  | [], k => k []
  | c :: cs, k => k (c.ids1 ++ cs.flatMap V.ids1)
theorem bidsCK_eq (cs : List V) : bidsCK cs k = k (cs.flatMap V.ids1) := by cases cs <;> rfl
theorem bidsCK_nil : bidsCK [] k = k [] := rfl
theorem bidsCK_d (x : D) (cs : List V) : bidsCK (.d x :: cs) k = bidsCK cs k := by simp only [bidsCK_eq]; rfl
theorem bidsCK_n (cs : List V) : bidsCK (.nil :: cs) k = bidsCK cs k := by simp only [bidsCK_eq]; rfl
theorem bidsCK_any (cs : List V) : bidsCK (.any :: cs) k = bidsCK cs k := by simp only [bidsCK_eq]; rfl
theorem bidsCK_own (i o : Nat) (cs : List V) : bidsCK (.own i o :: cs) k = bidsCK cs fun l => k (i :: l) := by simp only [bidsCK_eq]; rfl
theorem bidsCK_ptr (i o : Nat) (cs : List V) : bidsCK (.ptr i o :: cs) k = bidsCK cs fun l => k (i :: l) := by simp only [bidsCK_eq]; rfl
def bidsK (b : Option Blk) (k : List Nat → Option β) : Option β := match b with
  | some (.box cs) => k (cs.flatMap V.ids1)
  | _ => k []
theorem bidsK_box (c : V) (cs : List V) : bidsK (some (.box (c :: cs))) k = bidsCK (c :: cs) k := by rw [bidsCK_eq]; rfl
theorem bidsK_packed (ds : List D) : bidsK (some (.box (dcells ds))) k = k [] := by
  show k ((dcells ds).flatMap V.ids1) = _
  rw [ids1_dcells]
theorem bidsK_fbox (ds : List D) : bidsK (some (.fbox ds)) k = k [] := rfl
theorem bidsK_none : bidsK none k = k [] := rfl
theorem dids_ptr (i o : Nat) : (V.ptr i o).dids1 (lk bl none) = i :: (match lk bl none i with | some (.box cs) => cs.flatMap V.ids1 | _ => []) := rfl
theorem didsK_ptr (i o : Nat) : didsK bl (.ptr i o) k = blkK bl i fun b => bidsK b fun l => k (i :: l) := by
  unfold didsK blkK bidsK
  show k ((V.ptr i o).dids1 (lk bl none)) = _
  rw [dids_ptr]
  cases lk bl none i with
  | none => rfl
  | some b => cases b <;> rfl
theorem didsCK_ptr (i o : Nat) (cs : List V) : didsCK bl (.ptr i o :: cs) k = didsK bl (.ptr i o) fun m => didsCK bl cs fun l => k (m ++ l) := by simp only [didsCK_eq]; rfl
theorem fpK_fail : fpK d .fail fr bl k = k [] := rfl
theorem fpK_move (x : Opd) : fpK d (.move x) fr bl k = k [] := rfl
theorem fpK_pick (a b c : Opd) : fpK d (.pick a b c) fr bl k = k [] := rfl
theorem fpK_alloc (z : List V) : fpK d (.alloc z) fr bl k = k [d] := rfl
theorem fpK_box (x : Opd) : fpK d (.box x) fr bl k = k [d] := rfl
theorem fpK_build (z : List V) (ps : List (Nat × Nat × Opd)) : fpK d (.build z ps) fr bl k = k [] := rfl
theorem fpK_makeSlice (e s b : Nat) (z : List D) (x y : Opd) : fpK d (.makeSlice e s b z x y) fr bl k = k [d] := rfl
theorem fp1 (l : List Nat) : ([] : List Nat) ++ ((l ++ []) ++ []) = l := by simp
theorem fpK_load (s : Nat) (a : Bool) (x : Opd) : fpK d (.load s a x) fr bl k = opdK fr x fun v => idsK v k := by
  show k ([] ++ (((evo (lk fr .any) x).ids ++ []) ++ [])) = _
  rw [fp1]; rfl
theorem fpK_nilCheck (x : Opd) : fpK d (.nilCheck x) fr bl k = opdK fr x fun v => idsK v k := by
  show k ([] ++ (((evo (lk fr .any) x).ids ++ []) ++ [])) = _
  rw [fp1]; rfl
theorem fpK_fieldAddr (o : Nat) (x : Opd) : fpK d (.fieldAddr o x) fr bl k = opdK fr x fun v => idsK v k := by
  show k ([] ++ (((evo (lk fr .any) x).ids ++ []) ++ [])) = _
  rw [fp1]; rfl
theorem fpK_len (x : Opd) : fpK d (.len x) fr bl k = opdK fr x fun v => idsK v k := by
  show k ([] ++ (((evo (lk fr .any) x).ids ++ []) ++ [])) = _
  rw [fp1]; rfl
theorem fpK_slice (s : Nat) (x : Opd) (lo hi : Option Opd) : fpK d (.slice s x lo hi) fr bl k = opdK fr x fun v => idsK v k := by
  show k ([] ++ (((evo (lk fr .any) x).ids ++ []) ++ [])) = _
  rw [fp1]; rfl
theorem fpK_indexAddr (s : Nat) (x i : Opd) : fpK d (.indexAddr s x i) fr bl k = opdK fr x fun v => idsK v k := by
  show k ([] ++ (((evo (lk fr .any) x).ids ++ []) ++ [])) = _
  rw [fp1]; rfl
theorem fpK_store (s : Nat) (x v : Opd) : fpK d (.store s x v) fr bl k = opdK fr x fun a => idsK a fun l => opdK fr v fun b => didsK bl b fun m => k (l ++ m) := by
  show k ([] ++ (((evo (lk fr .any) x).ids ++ []) ++ ((evo (lk fr .any) v).dids (lk bl none) ++ []))) = _
  rw [List.nil_append, List.append_nil, List.append_nil]; rfl
theorem fpK_append (e s b : Nat) (x y : Opd) : fpK d (.append e s b x y) fr bl k = opdK fr x fun u => idsK u fun l => opdK fr y fun v => idsK v fun m => k (d :: (l ++ m)) := by
  show k ([d] ++ (((evo (lk fr .any) x).ids ++ ((evo (lk fr .any) y).ids ++ [])) ++ [])) = _
  rw [List.append_nil, List.append_nil]; rfl
def deepsK (fr : List (Nat × V)) (bl : List (Nat × Option Blk)) : List Opd → (List Nat → Option β) → Option β
  | [], k => k []
  | x :: l, k => opdK fr x fun v => didsK bl v fun m => deepsK fr bl l fun n => k (m ++ n)
theorem deepsK_eq (l : List Opd) : ∀ (k : List Nat → Option β), deepsK fr bl l k = k (l.flatMap fun x => (evo (lk fr .any) x).dids (lk bl none)) := by
  induction l with
  | nil => intro k; rfl
  | cons x l ih => intro k; simp only [deepsK, opdK, didsK, ih, List.flatMap_cons]
theorem deepsK_nil (k : List Nat → Option β) : deepsK fr bl [] k = k [] := rfl
theorem deepsK_cons (x : Opd) (l : List Opd) (k : List Nat → Option β) : deepsK fr bl (x :: l) k = opdK fr x fun v => didsK bl v fun m => deepsK fr bl l fun n => k (m ++ n) := rfl
theorem fpK_call (f : Nat) (args : List Opd) : fpK d (.call f args) fr bl k = deepsK fr bl args k := by
  rw [deepsK_eq]; rfl
theorem fpK_mkfn (f : Nat) (args : List Opd) : fpK d (.mkfn f args) fr bl k = deepsK fr bl args k := by
  rw [deepsK_eq]; rfl
theorem fpK_callv (g : Opd) (args : List Opd) : fpK d (.callv g args) fr bl k = deepsK fr bl args k := by
  rw [deepsK_eq]; rfl
def deepsP (fr : List (Nat × V)) (bl : List (Nat × Option Blk)) : List (Nat × Opd) → (List Nat → Option β) → Option β
  | [], k => k []
  | (_, x) :: l, k => opdK fr x fun v => didsK bl v fun m => deepsP fr bl l fun n => k (m ++ n)
theorem deepsP_eq (l : List (Nat × Opd)) : ∀ (k : List Nat → Option β), deepsP fr bl l k = k ((l.map fun p => p.2).flatMap fun x => (evo (lk fr .any) x).dids (lk bl none)) := by
  induction l with
  | nil => intro k; rfl
  | cons x l ih => intro k; obtain ⟨i, x⟩ := x; simp only [deepsP, opdK, didsK, ih, List.map_cons, List.flatMap_cons]
theorem deepsP_nil (k : List Nat → Option β) : deepsP fr bl [] k = k [] := rfl
theorem deepsP_cons (i : Nat) (x : Opd) (l : List (Nat × Opd)) (k : List Nat → Option β) : deepsP fr bl ((i, x) :: l) k = opdK fr x fun v => didsK bl v fun m => deepsP fr bl l fun n => k (m ++ n) := rfl
theorem fpK_buildSlice (e s n : Nat) (z : List D) (ps : List (Nat × Opd)) : fpK d (.buildSlice e s z n ps) fr bl k = deepsP fr bl ps fun l => k (d :: l) := by
  rw [deepsP_eq]; rfl
theorem fpK_bin (c : Nat) (op : BinOp) (x y : Opd) : fpK d (.bin c op x y) fr bl k = k [] := rfl
theorem fpK_eqS (ks : List Nat) (n : Bool) (x y : Opd) : fpK d (.eqS ks n x y) fr bl k = k [] := rfl
theorem fpK_un (op : UnOp) (x : Opd) : fpK d (.un op x) fr bl k = k [] := rfl
theorem fpK_conv (kd : IntKind) (x : Opd) : fpK d (.conv kd x) fr bl k = k [] := rfl
theorem fpK_strSlice (x : Opd) (lo hi : Option Opd) : fpK d (.strSlice x lo hi) fr bl k = k [] := rfl
theorem fpK_field (o s : Nat) (a : Bool) (x : Opd) : fpK d (.field o s a x) fr bl k = k [] := rfl
theorem fpK_index (x i : Opd) : fpK d (.index x i) fr bl k = k [] := rfl
theorem fpK_lenS (x : Opd) : fpK d (.lenS x) fr bl k = k [] := rfl
theorem fpK_max (l : List Opd) : fpK d (.max l) fr bl k = k [] := rfl
theorem fpK_min (l : List Opd) : fpK d (.min l) fr bl k = k [] := rfl
theorem fpK_bytes (x : Opd) : fpK d (.bytes x) fr bl k = k [] := rfl
theorem fpK_extract (x : Opd) (i : Nat) : fpK d (.extract x i) fr bl k = k [] := rfl
theorem evF_draw {k : Ex → St → Option β} (l : List SOper) (ps : List (Nat × Nat)) : evK T (.region l (some ps)) ⟨fr, bl⟩ k = opsDK T l ⟨fr, bl⟩ [] (endD l ps (k .normal)) := by
  rw [evK_draw, opsD_eq]
end
/-! rows that are written -/
section
variable {d : Nat} {fr : List (Nat × V)} {bl : List (Nat × Option Blk)} {k : V → Option β} {kw : V → List (Nat × Option Blk) → Option β}
theorem fzK_aa (a b c : List (Nat × Option Blk)) (v : V) : fzK ((a ++ b) ++ c) v k kw = fzK (a ++ (b ++ c)) v k kw := by rw [List.append_assoc]
def fzN (id : Nat) (f : List (Nat × Option Blk)) (x : Option β) : Option β := if notIn id f = true then x else none
theorem notIn_app (id : Nat) (b : List (Nat × Option Blk)) : ∀ a : List (Nat × Option Blk), notIn id (a ++ b) = if notIn id a = true then notIn id b else false
  | [] => rfl
  | (i, x) :: a => by
    simp only [List.cons_append, notIn]
    by_cases h : i = id
    · simp [h]
    · simp only [if_neg h]; exact notIn_app id b a
theorem fzN_nil (id : Nat) (x : Option β) : fzN id [] x = x := rfl
theorem fzN_c (id i : Nat) (b : Option Blk) (w : List (Nat × Option Blk)) (x : Option β) (h : (i == id) = false) : fzN id ((i, b) :: w) x = fzN id w x := by
  have h : ¬ i = id := by simpa using h
  simp only [fzN, notIn, if_neg h]
theorem fzN_app (id : Nat) (a b : List (Nat × Option Blk)) (x : Option β) : fzN id (a ++ b) x = fzN id a (fzN id b x) := by
  unfold fzN
  rw [notIn_app]
  by_cases h : notIn id a = true
  · rw [if_pos h, if_pos h]
  · rw [if_neg h, if_neg h]; rfl
def rowSetK (row : List D) (off : Nat) (ds : List D) (size : Nat) (k : List D → Option β) : Option β := if ds.length = size ∧ off + size ≤ row.length then k (setAt row off ds) else none
theorem rowSetK_drop (c : D) (cs : List D) (off : Nat) (e : D) (ds : List D) (n : Nat) (k : List D → Option β) : rowSetK (c :: cs) (off + 1) (e :: ds) n k = rowSetK cs off (e :: ds) n fun l => k (c :: l) := by
  unfold rowSetK
  simp only [List.length_cons, setAt]
  by_cases h : ds.length + 1 = n ∧ off + n ≤ cs.length
  · exact (if_pos (by omega)).trans (if_pos h).symm
  · exact (if_neg (by omega)).trans (if_neg h).symm
theorem rowSetK_put (c : D) (cs : List D) (e : D) (ds : List D) (n : Nat) (k : List D → Option β) : rowSetK (c :: cs) 0 (e :: ds) (n + 1) k = rowSetK cs 0 ds n fun l => k (e :: l) := by
  unfold rowSetK
  simp only [List.length_cons, setAt]
  by_cases h : ds.length = n ∧ 0 + n ≤ cs.length
  · exact (if_pos (by omega)).trans (if_pos h).symm
  · exact (if_neg (by omega)).trans (if_neg h).symm
theorem rowSetK_nil (cs : List D) (k : List D → Option β) : rowSetK cs 0 [] 0 k = k cs := by
  unfold rowSetK
  rw [if_pos ⟨rfl, by omega⟩, setAt_nil]
/-- a rule of the type lays the rows as a list of elements -/
def setRowsK (e : Nat) (rows : List (List D)) (i : Nat) (row : List D) (k : List (List D) → Option β) : Option β := k (rows.set i row)
theorem setRowsK_p {α : Type} (e : Nat) (c : α → List D) (xs : List α) (i : Nat) (x : α) (k : List (List D) → Option β) : setRowsK e (cM c xs) i (c x) k = k (cM c (xs.set i x)) := by
  unfold setRowsK
  rw [cM_set]
theorem storeOF {α : Type} (size v i off id e sz : Nat) (w : V) (c : α → List D) (xs : List α) : storeOK size v i off id w bl (some (.rows v e sz (cM c xs))) kw = rowK w bl fun ds f => fzN id f (xs[i]?.bind fun x => rowSetK (c x) off ds size fun row => setRowsK e (cM c xs) i row fun rows => kw .any ((id, some (.rows v e sz rows)) :: f)) := by
  unfold storeOK rowK
  simp only [storeO, if_true, cM, List.getElem?_map]
  cases xs[i]? with
  | none =>
    simp only [Option.map_none, Option.bind_none]
    cases mapM' (toD1 (lk bl none)) w.cells with
    | none => rfl
    | some ds => simp only [fzN]; split <;> rfl
  | some x =>
    simp only [Option.map_some, Option.bind_some]
    cases mapM' (toD1 (lk bl none)) w.cells with
    | none => rfl
    | some ds =>
      simp only [rowSetK, setRowsK, fzN]
      by_cases h1 : notIn id (fz2 (lk bl none) w) = true
      · rw [if_pos h1]
        by_cases h2 : ds.length = size ∧ off + size ≤ (c x).length
        · rw [if_pos h2, if_pos ⟨h2.1, h2.2, h1⟩]; rfl
        · rw [if_neg h2, if_neg (fun q => h2 ⟨q.1, q.2.1⟩)]; rfl
      · rw [if_neg h1, if_neg (fun q => h1 q.2.2)]; rfl
end
end
end Vm
end Go.Proofs.Ytdjfaepokfdihaa
