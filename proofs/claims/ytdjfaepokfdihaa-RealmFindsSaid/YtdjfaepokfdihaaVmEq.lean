/- Equations by which the small machine's code is read (they are named in the proofs that a program prints). -/
import Derived.Test.YtdjfaepokfdihaaVmSim
set_option linter.unusedVariables false
namespace Go.Proofs.Ytdjfaepokfdihaa
namespace Vm
open Go.RowKit

/-- the element at a place -/
def at? {α : Type} (xs : List α) (n : Int) : Option α := if 0 ≤ n then xs[n.toNat]? else none
def cI (n : Int) : List D := [.int .i64 n]
def cB (b : Bool) : List D := [.bool b]
def cS (s : ByteArray) : List D := [.str s]
def cK (k : IntKind) (n : Int) : List D := [.int k n]
def cD (row : List D) : List D := row
/-- the rows of a list of elements -/
def cM {α : Type} (c : α → List D) (xs : List α) : List (List D) := xs.map c
def cL {α : Type} (c : α → List D) (xs : List α) : List D := [.sl (cM c xs)]
/-- a part of a list, and when it may be cut -/
def sliceL {α : Type} (xs : List α) (l h : Int) : List α := (xs.take h.toNat).drop l.toNat
def sliceOk (n : Nat) (l h : Int) : Prop := 0 ≤ l ∧ l ≤ h ∧ h.toNat ≤ n
instance (n : Nat) (l h : Int) : Decidable (sliceOk n l h) := inferInstanceAs (Decidable (_ ∧ _ ∧ _))
/-- the byte at a place -/
def sAt (s : ByteArray) (n : Int) : Option Int := if 0 ≤ n then s[n.toNat]?.map fun b => (b.toNat : Int) else none

section
variable {β : Type} {T : Tbl} {site : Nat} {ev : Opd → V} {bl : Nat → Option Blk} (k : V → List (Nat × Option Blk) → Option β)
def pickR (c a b : V) : Res := match c with
  | .d (.bool true) => some (a, [])
  | .d (.bool false) => some (b, [])
  | _ => none
theorem pickR_b (b : Bool) (x y : V) : pickR (.d (.bool b)) x y = if b = true then some (x, []) else some (y, []) := by cases b <;> rfl
theorem aop_pick (C : Nat → List D → Option D) (c a b : Opd) : aop C site ev bl (.pick c a b) = pickR (ev c) (ev a) (ev b) := rfl
theorem aop_move (C : Nat → List D → Option D) (x : Opd) : aop C site ev bl (.move x) = some (ev x, []) := rfl
def idxR (size : Nat) (x i : V) (bl : Nat → Option Blk) : Res := match i with
    | .d (.int _ n) => match x with
      | .own id ver => match bl id with
        | some (.rows v e sz rows) => if ver = v ∧ sz = size ∧ 0 ≤ n ∧ n.toNat < rows.length then some (.orow id ver n.toNat 0, []) else none
        | some (.froz v rows) => if ver = v ∧ 0 ≤ n then match rows[n.toNat]? with
          | some row => if row.length = size then some (.d (.ptr row 0), []) else none
          | none => none
          else none
        | _ => none
      | .d (.sl rows) => if 0 ≤ n then match rows[n.toNat]? with
        | some row => if row.length = size then some (.d (.ptr row 0), []) else none
        | none => none
        else none
      | _ => none
    | _ => none
theorem aop_indexAddr (C : Nat → List D → Option D) (size : Nat) (x i : Opd) : aop C site ev bl (.indexAddr size x i) = idxR size (ev x) (ev i) bl := rfl
theorem idxR_sl {α : Type} (size : Nat) (c : α → List D) (xs : List α) (kd : IntKind) (n : Int) (bl : Nat → Option Blk) : resK (idxR size (.d (.sl (cM c xs))) (.d (.int kd n)) bl) k = (at? xs n).bind fun x => if (c x).length = size then k (.d (.ptr (c x) 0)) [] else none := by
  simp only [idxR, at?, cM]
  by_cases h : 0 ≤ n
  · rw [if_pos h, if_pos h, List.getElem?_map]
    cases xs[n.toNat]? with
    | none => rfl
    | some x =>
      simp only [Option.map_some, Option.bind_some]
      by_cases h2 : (c x).length = size
      · rw [if_pos h2, if_pos h2]; rfl
      · rw [if_neg h2, if_neg h2]; rfl
  · rw [if_neg h, if_neg h]; rfl
def idxB (size id ver : Nat) (n : Int) (b : Option Blk) : Res := match b with
  | some (.rows v e sz rows) => if ver = v ∧ sz = size ∧ 0 ≤ n ∧ n.toNat < rows.length then some (.orow id ver n.toNat 0, []) else none
  | some (.froz v rows) => if ver = v ∧ 0 ≤ n then match rows[n.toNat]? with
    | some row => if row.length = size then some (.d (.ptr row 0), []) else none
    | none => none
    else none
  | _ => none
theorem idxR_own (size id ver : Nat) (kd : IntKind) (n : Int) (bl : Nat → Option Blk) : idxR size (.own id ver) (.d (.int kd n)) bl = idxB size id ver n (bl id) := rfl
theorem idxB_rows (size id ver v e sz : Nat) (n : Int) (rows : List (List D)) (k : V → List (Nat × Option Blk) → Option β) : resK (idxB size id ver n (some (.rows v e sz rows))) k = if ver = v then (if sz = size then (if 0 ≤ n ∧ n.toNat < rows.length then k (.orow id ver n.toNat 0) [] else none) else none) else none := by
  simp only [idxB]
  by_cases h1 : ver = v
  · by_cases h2 : sz = size
    · by_cases h3 : 0 ≤ n ∧ n.toNat < rows.length
      · rw [if_pos ⟨h1, h2, h3⟩, if_pos h1, if_pos h2, if_pos h3]; rfl
      · rw [if_neg (fun q => h3 q.2.2), if_pos h1, if_pos h2, if_neg h3]; rfl
    · rw [if_neg (fun q => h2 q.2.1), if_pos h1, if_neg h2]; rfl
  · rw [if_neg (fun q => h1 q.1), if_neg h1]; rfl
theorem idxB_froz {α : Type} (size id ver v : Nat) (n : Int) (c : α → List D) (xs : List α) (k : V → List (Nat × Option Blk) → Option β) : resK (idxB size id ver n (some (.froz v (cM c xs)))) k = if ver = v then ((at? xs n).bind fun x => if (c x).length = size then k (.d (.ptr (c x) 0)) [] else none) else none := by
  simp only [idxB, at?, cM]
  by_cases h1 : ver = v
  · by_cases h : 0 ≤ n
    · rw [if_pos ⟨h1, h⟩, if_pos h1, if_pos h, List.getElem?_map]
      cases xs[n.toNat]? with
      | none => rfl
      | some x =>
        simp only [Option.map_some, Option.bind_some]
        by_cases h2 : (c x).length = size
        · rw [if_pos h2, if_pos h2]; rfl
        · rw [if_neg h2, if_neg h2]; rfl
    · rw [if_neg (fun q => h q.2), if_pos h1, if_neg h]; rfl
  · rw [if_neg (fun q => h1 q.1), if_neg h1]; rfl
/-- loads -/
def loadD (size : Nat) (isAgg : Bool) (off : Nat) (row : List D) : Res :=
  if isAgg then (if off + size ≤ row.length then some (.agg (((row.drop off).take size).map .d), []) else none) else row[off]?.map fun v => (.d v, [])
def loadB (size : Nat) (isAgg : Bool) (off : Nat) (b : Option Blk) : Res := match b with
  | some (.box cs) =>
    if isAgg then (if off + size ≤ cs.length then some (.agg ((cs.drop off).take size), []) else none)
    else cs[off]?.map fun v => (v, [])
  | some (.fbox row) => loadD size isAgg off row
  | _ => none
def loadO (size : Nat) (isAgg : Bool) (ver i off : Nat) (b : Option Blk) : Res := match b with
  | some (.rows v e sz rows) => if ver = v then match rows[i]? with
    | some row => loadD size isAgg off row
    | none => none
    else none
  | _ => none
def loadR (size : Nat) (isAgg : Bool) (x : V) (bl : Nat → Option Blk) : Res := match x with
  | .ptr id off => loadB size isAgg off (bl id)
  | .d (.ptr row off) => loadD size isAgg off row
  | .orow id ver i off => loadO size isAgg ver i off (bl id)
  | _ => none
theorem aop_load (C : Nat → List D → Option D) (size : Nat) (isAgg : Bool) (x : Opd) : aop C site ev bl (.load size isAgg x) = loadR size isAgg (ev x) bl := rfl
theorem loadR_ptr (size : Nat) (isAgg : Bool) (id off : Nat) (bl : Nat → Option Blk) : loadR size isAgg (.ptr id off) bl = loadB size isAgg off (bl id) := rfl
theorem loadR_d (size : Nat) (isAgg : Bool) (row : List D) (off : Nat) (bl : Nat → Option Blk) : loadR size isAgg (.d (.ptr row off)) bl = loadD size isAgg off row := rfl
theorem loadR_o (size : Nat) (isAgg : Bool) (id ver i off : Nat) (bl : Nat → Option Blk) : loadR size isAgg (.orow id ver i off) bl = loadO size isAgg ver i off (bl id) := rfl
theorem loadB_a (size off : Nat) (cs : List V) : loadB size true off (some (.box cs)) = if off + size ≤ cs.length then some (.agg ((cs.drop off).take size), []) else none := rfl
theorem loadB_c (size off : Nat) (cs : List V) : loadB size false off (some (.box cs)) = cs[off]?.map fun v => (v, []) := rfl
theorem loadD_a (size off : Nat) (row : List D) : loadD size true off row = if off + size ≤ row.length then some (.agg (((row.drop off).take size).map .d), []) else none := rfl
theorem loadD_c (size off : Nat) (row : List D) : loadD size false off row = row[off]?.map fun v => (.d v, []) := rfl
theorem loadO_rows {α : Type} (size : Nat) (isAgg : Bool) (ver v i off e sz : Nat) (c : α → List D) (xs : List α) (k : V → List (Nat × Option Blk) → Option β) : resK (loadO size isAgg ver i off (some (.rows v e sz (cM c xs)))) k = if ver = v then (xs[i]?.bind fun x => resK (loadD size isAgg off (c x)) k) else none := by
  simp only [loadO, cM, List.getElem?_map]
  by_cases h : ver = v
  · rw [if_pos h, if_pos h]; cases xs[i]? <;> rfl
  · rw [if_neg h, if_neg h]; rfl
/-- stores -/
def storeO (size ver i off id : Nat) (fz : List (Nat × Option Blk)) (ds : Option (List D)) (b : Option Blk) : Res := match b with
  | some (.rows w e sz rows) => if ver = w then match rows[i]?, ds with
    | some row, some ds => if ds.length = size ∧ off + size ≤ row.length ∧ notIn id fz = true then some (.any, (id, some (.rows w e sz (rows.set i (setAt row off ds)))) :: fz) else none
    | _, _ => none
    else none
  | _ => none
def storeB (size off id : Nat) (v : V) (b : Option Blk) : Res := match b with
  | some (.box cs) => if v.cells.length = size ∧ off + size ≤ cs.length ∧ v.known = true then some (.any, [(id, some (.box (setAt cs off v.cells)))]) else none
  | _ => none
def storeR (size : Nat) (x v : V) (bl : Nat → Option Blk) : Res := match x with
  | .ptr id off => storeB size off id v (bl id)
  | .orow id ver i off => storeO size ver i off id (fz2 bl v) (mapM' (toD1 bl) v.cells) (bl id)
  | _ => none
theorem aop_store (C : Nat → List D → Option D) (size : Nat) (x v : Opd) : aop C site ev bl (.store size x v) = storeR size (ev x) (ev v) bl := rfl
theorem storeR_p (size id off : Nat) (v : V) (bl : Nat → Option Blk) : storeR size (.ptr id off) v bl = storeB size off id v (bl id) := rfl
theorem storeR_o (size id ver i off : Nat) (v : V) (bl : Nat → Option Blk) : storeR size (.orow id ver i off) v bl = storeO size ver i off id (fz2 bl v) (mapM' (toD1 bl) v.cells) (bl id) := rfl
theorem storeB_box (size off id : Nat) (v : V) (cs : List V) : storeB size off id v (some (.box cs)) = if v.cells.length = size ∧ off + size ≤ cs.length ∧ v.known = true then some (.any, [(id, some (.box (setAt cs off v.cells)))]) else none := rfl
theorem aop_slice (C : Nat → List D → Option D) (size : Nat) (x : Opd) (lo hi : Option Opd) : aop C site ev bl (.slice size x lo hi) = sliceV bl size (ev x) (lo.map ev) (hi.map ev) := rfl
def rowsB (ver : Nat) (b : Option Blk) : Option (List (List D)) := match b with
  | some (.rows v _ _ rows) => if ver = v then some rows else none
  | some (.froz v rows) => if ver = v then some rows else none
  | _ => none
def sliceI (v : Option V) (d : Int) : Option Int := match v with
  | none => some d
  | some (.d (.int _ h)) => some h
  | _ => none
theorem sliceV_sl {α : Type} (size : Nat) (c : α → List D) (xs : List α) (lo hi : Option V) (l h : Int) (hl : sliceI lo 0 = some l) (hh : sliceI hi (xs.length : Int) = some h) (hs : sized size (cM c xs) = true) (bl : Nat → Option Blk) : resK (sliceV bl size (.d (.sl (cM c xs))) lo hi) k = if sliceOk xs.length l h then k (.d (.sl (cM c (sliceL xs l h)))) [] else none := by
  have e0 : ∀ lo' hi', sliceV bl size (.d (.sl (cM c xs))) lo' hi' = (match sliceI hi' ((cM c xs).length : Int), sliceI lo' 0 with
      | some h, some l => if 0 ≤ l ∧ l ≤ h ∧ h.toNat ≤ (cM c xs).length ∧ sized size (cM c xs) = true then some (.d (.sl (((cM c xs).take h.toNat).drop l.toNat)), []) else none
      | _, _ => none) := fun lo' hi' => rfl
  rw [e0, show ((cM c xs).length : Int) = (xs.length : Int) by simp [cM], hl, hh]
  simp only [show (cM c xs).length = xs.length by simp [cM]]
  by_cases q : sliceOk xs.length l h
  · rw [if_pos q, if_pos ⟨q.1, q.2.1, q.2.2, hs⟩]
    simp only [resK_some, cM, sliceL, List.map_drop, List.map_take]
  · rw [if_neg q, if_neg (fun w => q ⟨w.1, w.2.1, w.2.2.1⟩)]; rfl
theorem sliceI_n (d : Int) : sliceI none d = some d := rfl
theorem sliceI_s (kd : IntKind) (h d : Int) : sliceI (some (.d (.int kd h))) d = some h := rfl
def indexR (x i : V) : Res := match x, i with
    | .d (.str s), .d (.int _ n) => if 0 ≤ n then match s[n.toNat]? with
      | some b => some (.d (.int .u8 b.toNat), [])
      | none => none
      else none
    | _, _ => none
theorem aop_index (C : Nat → List D → Option D) (x i : Opd) : aop C site ev bl (.index x i) = indexR (ev x) (ev i) := rfl
theorem indexR_s (s : ByteArray) (kd : IntKind) (n : Int) : resK (indexR (.d (.str s)) (.d (.int kd n))) k = (sAt s n).bind fun b => k (.d (.int .u8 b)) [] := by
  simp only [indexR, sAt]
  split
  · cases s[n.toNat]? <;> rfl
  · rfl
end
section
variable {S X : Type} {enc : S → St} {out : X → Ex × St}
theorem stepR_ite (c : Prop) [Decidable c] (a b : Option (S ⊕ X)) : stepR enc out (if c then a else b) = if c then stepR enc out a else stepR enc out b := by split <;> rfl
theorem stepR_bind {α : Type} (o : Option α) (f : α → Option (S ⊕ X)) : stepR enc out (o.bind f) = o.bind fun x => stepR enc out (f x) := by cases o <;> rfl
theorem stepR_none : stepR enc out none = none := rfl
theorem stepR_inl (s : S) : stepR enc out (some (.inl s)) = some (.normal, enc s) := rfl
theorem stepR_inr (x : X) : stepR enc out (some (.inr x)) = some (out x) := rfl
end
theorem sized_cM {α : Type} (size : Nat) (c : α → List D) (hc : ∀ x, (c x).length = size) (xs : List α) : sized size (cM c xs) = true := by
  simp [sized, cM, hc]
theorem sized_cI (xs : List Int) : sized 1 (cM cI xs) = true := sized_cM _ _ (fun x => by rfl) xs
theorem sized_cK (k : IntKind) (xs : List Int) : sized 1 (cM (cK k) xs) = true := sized_cM _ _ (fun x => by rfl) xs
theorem sized_cB (xs : List Bool) : sized 1 (cM cB xs) = true := sized_cM _ _ (fun x => by rfl) xs
theorem sized_cS (xs : List ByteArray) : sized 1 (cM cS xs) = true := sized_cM _ _ (fun x => by rfl) xs
theorem sized_cL {α : Type} (c : α → List D) (xs : List (List α)) : sized 1 (cM (cL c) xs) = true := sized_cM _ _ (fun x => by rfl) xs
theorem cM_length {α : Type} (c : α → List D) (xs : List α) : (cM c xs).length = xs.length := by simp [cM]
theorem cM_append {α : Type} (c : α → List D) (xs ys : List α) : cM c xs ++ cM c ys = cM c (xs ++ ys) := by simp [cM]
theorem cM_set {α : Type} (c : α → List D) (xs : List α) (i : Nat) (x : α) : cM c (xs.set i x) = (cM c xs).set i (c x) := by simp [cM, List.map_set]
theorem cM_replicate {α : Type} (c : α → List D) (n : Nat) (x : α) : cM c (List.replicate n x) = List.replicate n (c x) := by simp [cM]
theorem cM_take {α : Type} (c : α → List D) (xs : List α) (n : Nat) : (cM c xs).take n = cM c (xs.take n) := by simp [cM, List.map_take]
theorem sized_map {α : Type} (size : Nat) (c : α → List D) (hc : ∀ x, (c x).length = size) (xs : List α) : sized size (xs.map c) = true := by
  simp [sized, hc]
theorem sized_nil (size : Nat) : sized size [] = true := rfl
theorem sized_cons (size : Nat) (r : List D) (rs : List (List D)) : sized size (r :: rs) = (r.length == size && sized size rs) := rfl
theorem sized_append (size : Nat) (r rs : List (List D)) : sized size (r ++ rs) = (sized size r && sized size rs) := by simp [sized]
theorem ite_bind {α γ : Type} (c : Prop) [Decidable c] (a b : Option α) (f : α → Option γ) : (if c then a else b).bind f = if c then a.bind f else b.bind f := by split <;> rfl
theorem ite_map {α γ : Type} (c : Prop) [Decidable c] (a b : Option α) (f : α → γ) : (if c then a else b).map f = if c then a.map f else b.map f := by split <;> rfl
theorem bind_map {α γ δ : Type} (o : Option α) (f : α → Option γ) (g : γ → δ) : (o.bind f).map g = o.bind fun x => (f x).map g := by cases o <;> rfl
theorem none_bind {α γ : Type} (f : α → Option γ) : (none : Option α).bind f = none := rfl
theorem elim_bind {α γ δ ε : Type} (f : α → Option δ) (g : γ → Option δ) (x : α ⊕ γ) (h : δ → Option ε) : (Sum.elim f g x).bind h = Sum.elim (fun y => (f y).bind h) (fun y => (g y).bind h) x := by cases x <;> rfl
theorem elim_map {α γ δ ε : Type} (f : α → Option δ) (g : γ → Option δ) (x : α ⊕ γ) (h : δ → ε) : (Sum.elim f g x).map h = Sum.elim (fun y => (f y).map h) (fun y => (g y).map h) x := by cases x <;> rfl
/-- a guard is a question whose answer is remembered -/
def gIf {α : Type} (b : Bool) (x y : α) : α := if b = true then x else y
theorem gIf_eq {α : Type} (b : Bool) (x y : α) : gIf b x y = if b = true then x else y := rfl
theorem gIf_congr {α : Type} {b c : Bool} {x y u v : α} (h1 : b = c) (h2 : c = true → x = u) (h3 : c = false → y = v) : gIf b x y = gIf c u v := by
  subst h1
  cases b
  · exact h3 rfl
  · exact h2 rfl
theorem guardK_t' {β : Type} (b : Bool) (x y : Option β) : guardK (.d (.bool b)) true x y = gIf b x y := by cases b <;> rfl
theorem guardK_f' {β : Type} (b : Bool) (x y : Option β) : guardK (.d (.bool b)) false x y = gIf b y x := by cases b <;> rfl
theorem gIf_true {α : Type} (x y : α) : gIf true x y = x := rfl
theorem gIf_false {α : Type} (x y : α) : gIf false x y = y := rfl
theorem elim_stepR {S X α γ : Type} {enc : S → St} {out : X → Ex × St} (f : α → Option (S ⊕ X)) (g : γ → Option (S ⊕ X)) (x : α ⊕ γ) : stepR enc out (Sum.elim f g x) = Sum.elim (fun y => stepR enc out (f y)) (fun y => stepR enc out (g y)) x := by cases x <;> rfl
/-- the end of a call -/
def finK (sf : SFunc) : Ex → St → Option D
  | .normal, s => finish sf s
  | .ret, s => finish sf s
  | .exit _, _ => none
theorem finK_n (sf : SFunc) (s : St) : finK sf .normal s = finish sf s := rfl
theorem finK_r (sf : SFunc) (s : St) : finK sf .ret s = finish sf s := rfl
theorem finK_e (sf : SFunc) (i : Nat) (s : St) : finK sf (.exit i) s = none := rfl
theorem call_eqK {T : Tbl} {f : Nat} {sf : SFunc} (hf : T f = some (.code sf)) (ds : List D) (hl : ds.length = sf.np) : Vm.call T f ds = evK T sf.body ⟨initFr 0 ds, []⟩ (finK sf) := by
  rw [call_eq hf ds hl]
  unfold evK
  cases Vm.ev T sf.body ⟨initFr 0 ds, []⟩ with
  | none => rfl
  | some q =>
    obtain ⟨e, s⟩ := q
    cases e <;> rfl
theorem ite_congr' {α : Type} {b c : Prop} {x y u v : α} {s : Decidable b} [Decidable c] (h1 : b = c) (h2 : c → x = u) (h3 : ¬c → y = v) : (@ite α b s x y) = (if c then u else v) := by
  subst h1
  by_cases h : b
  · rw [if_pos h, if_pos h]; exact h2 h
  · rw [if_neg h, if_neg h]; exact h3 h
theorem bind_congr' {α β : Type} (o : Option α) {f g : α → Option β} (h : ∀ x, f x = g x) : o.bind f = o.bind g := by rw [funext h]
end Vm
end Go.Proofs.Ytdjfaepokfdihaa
