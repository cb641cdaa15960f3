/- Plain laws of open days. No program in sight. -/
import Derived.Test.YtgdjedbkiaojhaaRefC
set_option linter.unusedVariables false
namespace Go.Proofs.Ytgdjedbkiaojhaa.Cal

theorem first_open (c : Town) (d : Int) : ∀ n : Nat, (∃ k : Nat, k < n ∧ openD c (d + k) = true ∧ ∀ j : Nat, j < k → openD c (d + j) = false) ∨ ∀ j : Nat, j < n → openD c (d + j) = false
  | 0 => .inr fun j hj => by omega
  | n + 1 => by
    rcases first_open c d n with ⟨k, hk, h1, h2⟩ | h
    · exact .inl ⟨k, by omega, h1, h2⟩
    · cases hp : openD c (d + n) with
      | true => exact .inl ⟨n, by omega, hp, h⟩
      | false =>
        refine .inr fun j hj => ?_
        rcases (by omega : j < n ∨ j = n) with h' | rfl
        · exact h j h'
        · exact hp
/-- the next open day: open, not before, none between -/
theorem nx1_spec {c : Town} {d x : Int} (h : nx1 c d = some x) : okDay d ∧ d ≤ x ∧ x ≤ d + 400 ∧ x ≤ 100000 ∧ openD c x = true ∧ ∀ i, d ≤ i → i < x → openD c i = false := by
  have hd : okDay d := by
    apply Classical.byContradiction; intro hn
    unfold nx1 at h; rw [if_neg hn] at h; simp at h
  have hl := nlen_eq d hd
  rcases first_open c d (nlen d) with ⟨k, hk, h1, h2⟩ | h2
  · have := nx1_at c d k hd (by omega) (by omega) h1 h2
    rw [this] at h
    obtain rfl := Option.some.inj h
    refine ⟨hd, by omega, by omega, by omega, h1, fun i hi1 hi2 => ?_⟩
    obtain ⟨j, hj⟩ := Int.eq_ofNat_of_zero_le (show 0 ≤ i - d by omega)
    have := h2 j (by omega)
    rwa [show d + (j : Int) = i from by omega] at this
  · have := nx1_none c d hd (fun j hj1 hj2 => h2 j (by omega))
    rw [this] at h; simp at h
theorem nx1_no {c : Town} {d : Int} (hd : okDay d) (h : nx1 c d = none) : ∀ i, d ≤ i → i ≤ d + 400 → i ≤ 100000 → openD c i = false := fun i h1 h2 h3 => by
  have hl := nlen_eq d hd
  rcases first_open c d (nlen d) with ⟨k, hk, g1, g2⟩ | g2
  · have := nx1_at c d k hd (by omega) (by omega) g1 g2
    rw [this] at h; simp at h
  · obtain ⟨j, hj⟩ := Int.eq_ofNat_of_zero_le (show 0 ≤ i - d by omega)
    have := g2 j (by omega)
    rwa [show d + (j : Int) = i from by omega] at this
theorem nx1_self {c : Town} {x : Int} (hx : okDay x) (h : openD c x = true) : nx1 c x = some x := by
  have := nx1_at c x 0 hx (by omega) (by have := hx.2; omega) (by simpa using h) (fun j hj => by omega)
  simpa using this

/-! ### counting -/
theorem opens_add (c : Town) (d : Int) (m : Nat) : ∀ n : Nat, opens c d (m + n) = opens c d m ++ opens c (d + m) n
  | 0 => by simp [opens]
  | n + 1 => by
    rw [show m + (n + 1) = (m + n) + 1 from by omega]
    simp only [opens]
    rw [opens_add c d m n, List.append_assoc, show d + ((m + n : Nat) : Int) = d + m + n from by omega]
/-- how many open days there are behind a day, up to another -/
def after (c : Town) (d x : Int) : Nat := (opens c (d + 1) (x - d).toNat).length
theorem after_add (c : Town) (d x y : Int) (h1 : d ≤ x) (h2 : x ≤ y) : after c d y = after c d x + after c x y := by
  unfold after
  rw [show (y - d).toNat = (x - d).toNat + (y - x).toNat from by omega, opens_add, List.length_append, show d + 1 + ((x - d).toNat : Int) = x + 1 from by omega]
theorem after_next {c : Town} {d x : Int} (h : nx1 c (d + 1) = some x) : after c d x = 1 := by
  obtain ⟨_, h1, _, _, h4, h5⟩ := nx1_spec h
  unfold after
  obtain ⟨k, hk⟩ : ∃ k : Nat, (x - d).toNat = k + 1 := ⟨(x - d).toNat - 1, by omega⟩
  rw [hk, opens_yes c (d + 1) k (by rw [show d + 1 + (k : Int) = x from by omega]; exact h4), opens_nil c (d + 1) k (fun j hj => h5 _ (by omega) (by omega))]
  rfl
theorem plus_some (c : Town) : ∀ (a : Nat) (d x : Int), plus c a d = some x → okDay d → okDay x ∧ d ≤ x ∧ (a = 0 → x = d) ∧ (0 < a → d < x ∧ openD c x = true) ∧ after c d x = a
  | 0, d, x, h, hd => by
    have : d = x := Option.some.inj h
    subst this
    exact ⟨hd, by omega, fun _ => rfl, fun h => by omega, by simp [after, opens]⟩
  | a + 1, d, x, h, hd => by
    simp only [plus] at h
    cases hn : nx1 c (d + 1) with
    | none => rw [hn] at h; simp at h
    | some y =>
      rw [hn] at h
      obtain ⟨g0, g1, g2, g3, g4, g5⟩ := nx1_spec hn
      have hy : okDay y := ⟨by have := hd.1; omega, g3⟩
      obtain ⟨i1, i2, i3, i4, i5⟩ := plus_some c a y x h hy
      have hx : openD c x = true := by
        rcases (by omega : a = 0 ∨ 0 < a) with h0 | h0
        · rw [i3 h0]; exact g4
        · exact (i4 h0).2
      refine ⟨i1, by omega, fun h => by omega, fun _ => ⟨by omega, hx⟩, ?_⟩
      rw [after_add c d y x (by omega) i2, after_next hn, i5]; omega
theorem plus_add (c : Town) (b : Nat) : ∀ (a : Nat) (d : Int), plus c (a + b) d = (match plus c a d with | none => none | some x => plus c b x)
  | 0, d => by simp [plus]
  | a + 1, d => by
    rw [show a + 1 + b = (a + b) + 1 from by omega]
    simp only [plus]
    cases nx1 c (d + 1) with
    | none => rfl
    | some y => exact plus_add c b a y
theorem cnt_after (c : Town) (d x : Int) (h : d < x) : cnt c (d + 1) x = after c d x := by
  unfold cnt after; rw [show (x + 1 - (d + 1)).toNat = (x - d).toNat from by omega]
theorem cnt_parts (c : Town) (a m b : Int) (h1 : a ≤ m) (h2 : m < b) : cnt c a m + cnt c (m + 1) b = cnt c a b := by
  unfold cnt
  rw [show (b + 1 - a).toNat = (m + 1 - a).toNat + (b + 1 - (m + 1)).toNat from by omega, opens_add, List.length_append, show a + ((m + 1 - a).toNat : Int) = m + 1 from by omega]
  omega
theorem cnt_none (c : Town) (a b : Int) (h : b < a) : cnt c a b = 0 := by
  unfold cnt; rw [show (b + 1 - a).toNat = 0 from by omega]; rfl
/-- one day more is closed -/
def lessT (c : Town) (s : Int) : Town := ⟨c.rest, c.feasts, c.shut ++ [s]⟩
theorem openD_less (c : Town) (s d : Int) : openD (lessT c s) d = (openD c d && decide (d ≠ s)) := by
  unfold openD lessT
  simp only [List.mem_append, List.mem_singleton]
  by_cases h : d = s <;> by_cases h2 : d ∈ c.shut <;> simp [h, h2] <;> try (subst h; simp [h2])
theorem opens_less (c : Town) (s d : Int) : ∀ n : Nat, (opens (lessT c s) d n).length + (if openD c s = true ∧ d ≤ s ∧ s < d + n then 1 else 0) = (opens c d n).length
  | 0 => by simp [opens]
  | n + 1 => by
    have ih := opens_less c s d n
    simp only [opens, List.length_append]
    rw [openD_less]
    by_cases hs : d + (n : Int) = s
    · have h0 : ¬ (openD c s = true ∧ d ≤ s ∧ s < d + n) := fun h => by have := h.2.2; omega
      rw [if_neg h0] at ih
      rw [hs]
      cases hp : openD c s with
      | true =>
        have h1 : (True ∧ d ≤ s ∧ s < d + ((n + 1 : Nat) : Int)) := ⟨trivial, by omega, by omega⟩
        simp only [h1, and_self, ite_true, ne_eq, not_true_eq_false, decide_false, Bool.and_false, Bool.false_eq_true, ite_false, List.length_nil, List.length_cons]
        omega
      | false =>
        simp; omega
    · have e : (openD c s = true ∧ d ≤ s ∧ s < d + ((n + 1 : Nat) : Int)) ↔ (openD c s = true ∧ d ≤ s ∧ s < d + n) :=
        ⟨fun h => ⟨h.1, h.2.1, by have := h.2.2; omega⟩, fun h => ⟨h.1, h.2.1, by have := h.2.2; omega⟩⟩
      simp only [e]
      simp only [ne_eq, hs, not_false_eq_true, decide_true, Bool.and_true]
      omega
theorem cnt_less (c : Town) (s a b : Int) (h : a ≤ b) : cnt (lessT c s) a b = cnt c a b - (if openD c s = true ∧ a ≤ s ∧ s ≤ b then 1 else 0) := by
  have := opens_less c s a (b + 1 - a).toNat
  unfold cnt
  have e : (openD c s = true ∧ a ≤ s ∧ s < a + ((b + 1 - a).toNat : Int)) ↔ (openD c s = true ∧ a ≤ s ∧ s ≤ b) :=
    ⟨fun h => ⟨h.1, h.2.1, by have := h.2.2; omega⟩, fun h => ⟨h.1, h.2.1, by have := h.2.2; omega⟩⟩
  simp only [e] at this
  split at this <;> rename_i hh
  · rw [if_pos hh]; omega
  · rw [if_neg hh]; omega
end Go.Proofs.Ytgdjedbkiaojhaa.Cal
