/- How what a call is handed reads: ints, strings, bools, structs (flat lists of cells) and slices of these, at whatever program. -/
import Derived.Test.YtgdjedbkiaojhaaKit
import Derived.ProofKit
import Derived.OpenShut
import Derived.Deep.Slices
import Derived.ChangeOld
set_option linter.unusedVariables false
namespace Go.Proofs.Ytgdjedbkiaojhaa
open Go.RowKit Go.ChangeShapes Go.WideShapes Go.Deep

/-- the slice value v reads as the list xs, each element k cells as TV says -/
def Sl {α : Type} (w : World) (TV : World → α → List Value → Prop) (k : Nat) (v : Value) (xs : List α) : Prop :=
  (∃ a c, v = .slice a 0 c ∧ (a = none → c = 0) ∧ xs = []) ∨ ∃ b off c, v = .slice (some ⟨b, off, none⟩) xs.length c ∧ ∀ (i : Nat) (x : α), xs[i]? = some x → ∃ cs, TV w x cs ∧ cs.length = k ∧ ∀ j, j < k → w.cell? ⟨b, off + i * k + j, none⟩ = cs[j]?
/-- below the heap's size nothing turns: what it says stays -/
def Steady {α : Type} (TV : World → α → List Value → Prop) : Prop := ∀ (A B : World) (x : α) (cs : List Value), Below A.heap.size A B → TV A x cs → TV B x cs

theorem Sl.to {α : Type} {TV : World → α → List Value → Prop} {k : Nat} {v : Value} {xs : List α} {A B : World} (hS : Steady TV) (h : Below A.heap.size A B) (hs : Sl A TV k v xs) : Sl B TV k v xs := by
  rcases hs with h0 | ⟨b, off, c, rfl, hc⟩
  · exact .inl h0
  · refine .inr ⟨b, off, c, rfl, fun i x hx => ?_⟩
    obtain ⟨cs, h1, h2, h3⟩ := hc i x hx
    refine ⟨cs, hS A B x cs h h1, h2, fun j hj => ?_⟩
    obtain ⟨u, hu⟩ : ∃ u, cs[j]? = some u := ⟨cs[j]'(by omega), by simp⟩
    have h4 := h3 j hj
    rw [hu] at h4 ⊢
    exact (h.cell (p := ⟨b, off + i * k + j, none⟩) (World.block_lt_of_cell? A _ h4)).trans h4
theorem Sl.steady {α : Type} {TV : World → α → List Value → Prop} (k : Nat) (hS : Steady TV) : Steady (fun (w : World) (xs : List α) (cs : List Value) => ∃ v, cs = [v] ∧ Sl w TV k v xs) :=
  fun A B xs cs h ⟨v, e, hs⟩ => ⟨v, e, hs.to hS h⟩

def SlTV {α : Type} (TV : World → α → List Value → Prop) (k : Nat) (w : World) (xs : List α) (cs : List Value) : Prop := ∃ v, cs = [v] ∧ Sl w TV k v xs
theorem SlTV.steady {α : Type} {TV : World → α → List Value → Prop} (k : Nat) (hS : Steady TV) : Steady (SlTV TV k) := Sl.steady k hS
def KTV (k : IntKind) (_w : World) (n : Int) (cs : List Value) : Prop := cs = [.int k n] ∧ (Lit.int k n).wf = true
theorem KTV.steady (k : IntKind) : Steady (KTV k) := fun _ _ _ _ _ h => h
def IntTV (_w : World) (n : Int) (cs : List Value) : Prop := cs = [.int .i64 n] ∧ (Lit.int .i64 n).wf = true
def BoolTV (_w : World) (b : Bool) (cs : List Value) : Prop := cs = [.bool b]
def StrTV (_w : World) (s : ByteArray) (cs : List Value) : Prop := cs = [.string s] ∧ s.size ≤ maxLen
theorem IntTV.steady : Steady IntTV := fun _ _ _ _ _ h => h
theorem BoolTV.steady : Steady BoolTV := fun _ _ _ _ _ h => h
theorem StrTV.steady : Steady StrTV := fun _ _ _ _ _ h => h

section
variable {H : Type} {enc : TypeId × Value → H} {P : Program} {w : World} {sp : Nat → Bool} {held : Bool}
/-- whatever reads at the type t is as TV says -/
def Opens {α : Type} (P : Program) (t : TypeId) (TV : World → α → List Value → Prop) : Prop :=
  ∀ (H : Type) (enc : TypeId × Value → H) (w : World) (base : Nat) (sp : Nat → Bool) (held : Bool) (fuel : Nat) (cs : List Value) (x : DataW H × List MemPlace), DataW.trod enc P w base sp held fuel t cs = some x → ∃ d, TV w d cs
theorem opens_int {t : TypeId} (ht : P.underlying t = some (.int .i64)) : Opens P t IntTV := fun _ _ _ _ _ _ _ _ _ h => by
  obtain ⟨n, rfl, _, hw⟩ := DataW.trod_int ht h
  exact ⟨n, rfl, hw⟩
theorem opens_kind {t : TypeId} {k : IntKind} (ht : P.underlying t = some (.int k)) : Opens P t (KTV k) := fun _ _ _ _ _ _ _ _ _ h => by
  obtain ⟨n, rfl, _, hw⟩ := DataW.trod_int ht h
  exact ⟨n, rfl, hw⟩
theorem opens_bool {t : TypeId} (ht : P.underlying t = some .bool) : Opens P t BoolTV := fun _ _ _ _ _ _ _ _ _ h => by
  obtain ⟨n, rfl, _⟩ := DataW.trod_bool ht h
  exact ⟨n, rfl⟩
theorem opens_str {t : TypeId} (ht : P.underlying t = some .string) : Opens P t StrTV := fun _ _ _ _ _ _ _ _ _ h => by
  obtain ⟨n, rfl, _, hw⟩ := DataW.trod_string ht h
  exact ⟨n, rfl, hw⟩
theorem addr_add (b off n : Nat) : (⟨b, off, none⟩ : Addr).add n = ⟨b, off + n, none⟩ := by
  unfold Addr.add
  by_cases h : n = 0
  · simp [h]
  · simp [h]
theorem choose_list {α : Type} (p : Nat → α → Prop) : ∀ n : Nat, (∀ i, i < n → ∃ x, p i x) → ∃ xs : List α, xs.length = n ∧ ∀ i x, xs[i]? = some x → p i x
  | 0, _ => ⟨[], rfl, fun i x h => by simp at h⟩
  | n + 1, h => by
    obtain ⟨xs, hl, hx⟩ := choose_list p n (fun i hi => h i (by omega))
    obtain ⟨y, hy⟩ := h n (by omega)
    refine ⟨xs ++ [y], by simp [hl], fun i x hi => ?_⟩
    rcases (by omega : i < n ∨ n ≤ i) with h1 | h1
    · rw [List.getElem?_append_left (by omega)] at hi; exact hx i x hi
    · rw [List.getElem?_append_right (by omega)] at hi
      obtain rfl : i = n := by
        apply Classical.byContradiction; intro hne
        rw [List.getElem?_eq_none (by simp; omega)] at hi; simp at hi
      simp [hl] at hi; subst hi; exact hy
theorem opens_slice {α : Type} {t e k : Nat} {TV : World → α → List Value → Prop} (ht : P.underlying t = some (.slice e)) (hk : P.cellsOf e = k) (hk0 : 0 < k) (he : Opens P e TV) :
    Opens P t (SlTV TV k) := fun H enc w base sp held fuel cs x h => by
  rcases open_slice ht h with ⟨rfl, _⟩ | ⟨a, len, cap, m, n, D, Pl, rfl, _, hl, hm, hmm, _, hi⟩
  · exact ⟨[], _, rfl, .inl ⟨none, 0, rfl, fun _ => rfl, rfl⟩⟩
  · have hlm : len ≤ m := by rw [hmm]; split <;> omega
    by_cases h0 : len = 0
    · subst h0; exact ⟨[], _, rfl, .inl ⟨_, _, rfl, fun h => by simp at h, rfl⟩⟩
    · obtain ⟨xs, hxl, hx⟩ := choose_list (fun i x => ∃ cs', w.cells? base (a.add (i * P.cellsOf e)) (P.cellsOf e) = some cs' ∧ TV w x cs') len (fun i hi' => by
        obtain ⟨cs', h1, h2⟩ := hi i (by omega)
        obtain ⟨d, hd⟩ := he H enc w base sp held n cs' _ h2
        exact ⟨d, cs', h1, hd⟩)
      have hspot : a.spot = none := by
        obtain ⟨cs', h1, _⟩ := hi 0 (by omega)
        obtain ⟨_, hcl, hat⟩ := World.cells?_some h1
        have := hat 0 (by omega)
        have hc := this.trans (List.getElem?_eq_getElem (show 0 < cs'.length by omega))
        simpa [Addr.add] using World.cell?_spot hc
      obtain ⟨b, off, spot⟩ := a
      simp only at hspot
      subst hspot
      refine ⟨xs, _, rfl, .inr ⟨b, off, cap, by rw [hxl], fun i y hy => ?_⟩⟩
      obtain ⟨cs', h1, h2⟩ := hx i y hy
      obtain ⟨_, hcl, hat⟩ := World.cells?_some h1
      refine ⟨cs', h2, by rw [hcl, hk], fun j hj => ?_⟩
      have := hat j (by omega)
      rw [hk, addr_add, addr_add] at this
      exact this
end
end Go.Proofs.Ytgdjedbkiaojhaa
