/- What the functions of package realm answer about a realm, and the laws of layer 9. -/
import Derived.Test.YtdjfaepokfdihaaPReal9
set_option linter.unusedVariables false
set_option linter.unusedSimpArgs false
namespace Go.Proofs.Ytdjfaepokfdihaa
open Go.RowKit Vm

/-! what is found -/
def orderAtOf (r : GRealm) (c : Int) : Int := if 0 ≤ c ∧ c < r.Cities.length then (el r.Cities c.toNat).Order else -1
theorem orderAt_eq (r : GRealm) (c : Int) : mrealm_OrderAt r c = some (orderAtOf r c) := by
  unfold mrealm_OrderAt orderAtOf
  simp only [in_eq, Option.bind_some]
  by_cases h : 0 ≤ c ∧ c < r.Cities.length
  · rw [if_pos h, decide_eq_true h, at_eq _ _ h.1 h.2]; rfl
  · rw [if_neg h, decide_eq_false h]; rfl
theorem ref_orderAt_eq (r : GRealm) (c : Int) (hl : r.Cities.length < 1000000) : mallongeref09_OrderAt r c = some (orderAtOf r c) := by
  unfold mallongeref09_OrderAt orderAtOf
  rw [wrap_id (by omega) (by omega)]
  simp only [within_eq, Option.bind_some]
  by_cases h : 0 ≤ c ∧ c < r.Cities.length
  · rw [if_pos h, decide_eq_true (by omega), at_eq _ _ h.1 h.2]; rfl
  · rw [if_neg h, decide_eq_false (by omega)]; rfl
def usanceOf (r : GRealm) (a b : Int) : Int × Int := ((firstO (fun i => if (el r.Usances i).From = a ∧ (el r.Usances i).To = b then some (el r.Usances i).Days else none) 0 r.Usances.length).map fun d => (d, (0 : Int))).getD (0, 4)
theorem usance_eq (r : GRealm) (a b : Int) (hl : r.Usances.length < 1000000) : mrealm_Usance r a b = some (usanceOf r a b) := by
  unfold mrealm_Usance usanceOf
  have : mrealm_Usance_l1 r a b 0 = some (toS () (firstO (fun i => if (el r.Usances i).From = a ∧ (el r.Usances i).To = b then some (el r.Usances i).Days else none) 0 r.Usances.length)) := by
    refine iter_first (step := fun w => mrealm_Usance_l1_s r a b w) (fun i => (i : Int)) _ _ _ ?_ ?_
    · intro i hi
      simp only [mrealm_Usance_l1_s, lt_t hi, if_true, at_el _ _ hi, Option.bind_some, wrap_succ (show i < 9223372036854775807 by omega), beq_iff_eq]
      by_cases h1 : (el r.Usances i).From = a <;> by_cases h2 : (el r.Usances i).To = b <;> simp [h1, h2]
    · simp only [mrealm_Usance_l1_s, lt_f, if_false]
  rw [this]
  generalize firstO _ 0 _ = o
  cases o <;> rfl
theorem ref_usance_eq (r : GRealm) (a b : Int) (hl : r.Usances.length < 1000000) : mallongeref09_Usance r a b = some (usanceOf r a b) := by
  unfold mallongeref09_Usance usanceOf
  have : mallongeref09_Usance_l1 r a b 0 = some (toS () (firstO (fun i => if (el r.Usances i).From = a ∧ (el r.Usances i).To = b then some (el r.Usances i).Days else none) 0 r.Usances.length)) := by
    refine iter_first (step := fun w => mallongeref09_Usance_l1_s r a b w) (fun i => (i : Int)) _ _ _ ?_ ?_
    · intro i hi
      simp only [mallongeref09_Usance_l1_s, lt_t hi, if_true, at_el _ _ hi, Option.bind_some, wrap_succ (show i < 9223372036854775807 by omega), beq_iff_eq]
      by_cases h1 : (el r.Usances i).From = a <;> by_cases h2 : (el r.Usances i).To = b <;> simp [h1, h2]
    · simp only [mallongeref09_Usance_l1_s, lt_f, if_false]
  rw [this]
  generalize firstO _ 0 _ = o
  cases o <;> rfl
def memTo (r : GRealm) (g : Int) (i : Nat) : List Int := ((List.range i).filter fun k => decide ((el r.Firms k).Group = g)).map fun (k : Nat) => (k : Int)
def membersOf (r : GRealm) (g : Int) : List Int := memTo r g r.Firms.length
theorem memTo_len (r : GRealm) (g : Int) (i : Nat) : (memTo r g i).length ≤ i := by
  unfold memTo
  rw [List.length_map]
  exact Nat.le_trans (List.length_filter_le _ _) (by simp)
theorem memTo_succ (r : GRealm) (g : Int) (i : Nat) : memTo r g (i + 1) = if (el r.Firms i).Group = g then memTo r g i ++ [(i : Int)] else memTo r g i := by
  unfold memTo
  rw [List.range_succ, List.filter_append, List.map_append]
  by_cases h : (el r.Firms i).Group = g <;> simp [h]
theorem members_eq (r : GRealm) (g : Int) (hl : r.Firms.length < 1000000) : mrealm_Members r g = some (membersOf r g) := by
  unfold mrealm_Members membersOf
  have : mrealm_Members_l1 r g 0 [] = some (memTo r g r.Firms.length) := by
    refine iter_all (step := fun w => mrealm_Members_l1_s r g w.1 w.2) (fun i => ((i : Int), memTo r g i)) r.Firms.length _ ?_ ?_
    · intro i hi
      have := memTo_len r g i
      simp only [mrealm_Members_l1_s, lt_t hi, if_true, at_el _ _ hi, Option.bind_some, wrap_succ (show i < 9223372036854775807 by omega), beq_iff_eq, memTo_succ]
      by_cases h : (el r.Firms i).Group = g
      · rw [if_pos h, if_pos (by omega), if_pos h]
      · rw [if_neg h, if_neg h]
    · simp only [mrealm_Members_l1_s, lt_f, if_false]
  rw [this]; rfl
theorem ref_members_eq (r : GRealm) (g : Int) (hl : r.Firms.length < 1000000) : mallongeref09_Members r g = some (membersOf r g) := by
  unfold mallongeref09_Members membersOf
  have : mallongeref09_Members_l1 r g 0 [] = some (memTo r g r.Firms.length) := by
    refine iter_all (step := fun w => mallongeref09_Members_l1_s r g w.1 w.2) (fun i => ((i : Int), memTo r g i)) r.Firms.length _ ?_ ?_
    · intro i hi
      have := memTo_len r g i
      simp only [mallongeref09_Members_l1_s, lt_t hi, if_true, at_el _ _ hi, Option.bind_some, wrap_succ (show i < 9223372036854775807 by omega), beq_iff_eq, memTo_succ]
      by_cases h : (el r.Firms i).Group = g
      · rw [if_pos h, if_pos (by omega), if_pos h]
      · rw [if_neg h, if_neg h]
    · simp only [mallongeref09_Members_l1_s, lt_f, if_false]
  rw [this]; rfl
def gradeOf (r : GRealm) (i : Int) : Int := if 0 ≤ i ∧ i < r.Firms.length then (if 0 ≤ (el r.Firms i.toNat).Group ∧ (el r.Firms i.toNat).Group < r.Groups.length then (el r.Groups (el r.Firms i.toNat).Group.toNat).Grade else -1) else -1
theorem grade_eq (r : GRealm) (i : Int) : mrealm_Grade r i = some (gradeOf r i) := by
  unfold mrealm_Grade gradeOf
  simp only [in_eq, Option.bind_some]
  by_cases h : 0 ≤ i ∧ i < r.Firms.length
  · rw [if_pos h, decide_eq_true h, at_eq _ _ h.1 h.2]
    simp only [Option.bind_some]
    by_cases h2 : 0 ≤ (el r.Firms i.toNat).Group ∧ (el r.Firms i.toNat).Group < r.Groups.length
    · rw [if_pos h2, decide_eq_true h2, at_eq _ _ h2.1 h2.2]; rfl
    · rw [if_neg h2, decide_eq_false h2]; rfl
  · rw [if_neg h, decide_eq_false h]; rfl
theorem ref_grade_eq (r : GRealm) (i : Int) (hl : r.Firms.length < 1000000) (hg : r.Groups.length < 1000000) : mallongeref09_Grade r i = some (gradeOf r i) := by
  unfold mallongeref09_Grade gradeOf
  rw [wrap_id (by omega) (by omega), wrap_id (by omega) (by omega)]
  simp only [within_eq, Option.bind_some]
  by_cases h : 0 ≤ i ∧ i < r.Firms.length
  · rw [if_pos h, decide_eq_true (show 0 ≤ i ∧ i ≤ (r.Firms.length : Int) - 1 by omega), at_eq _ _ h.1 h.2]
    simp only [Option.bind_some]
    by_cases h2 : 0 ≤ (el r.Firms i.toNat).Group ∧ (el r.Firms i.toNat).Group < r.Groups.length
    · rw [if_pos h2, decide_eq_true (by omega), at_eq _ _ h2.1 h2.2]; rfl
    · rw [if_neg h2, decide_eq_false (by omega)]; rfl
  · rw [if_neg h, decide_eq_false (by omega)]; rfl
def idxOf (l : List ByteArray) (x : ByteArray) : Int := (firstO (fun i => if el l i = x then some (i : Int) else none) 0 l.length).getD (-1)
theorem idx_at {l : List ByteArray} {x : ByteArray} (i : Nat) (hi : i < l.length) (h : el l i = x) (hb : ∀ j, j < i → el l j ≠ x) : idxOf l x = i := by
  unfold idxOf
  rw [firstO_at l.length i hi (x := (i : Int)) (by rw [if_pos h]) (fun j hj => by rw [if_neg (hb j hj)])]
  rfl
theorem idx_none {l : List ByteArray} {x : ByteArray} (h : ∀ j, j < l.length → el l j ≠ x) : idxOf l x = -1 := by
  unfold idxOf
  rw [(firstO_none _ _).2 fun i _ hi => by rw [if_neg (h i (by omega))]]
  rfl
theorem firm_eq (r : GRealm) (x : ByteArray) (hl : r.Firms.length < 1000000) : mrealm_Firm r x = some (idxOf (r.Firms.map (·.Name)) x) := by
  unfold mrealm_Firm mslices_IndexFunc_api_Firm_api_Firm_s1 idxOf
  have : mslices_IndexFunc_api_Firm_api_Firm_s1_l1 r.Firms x 0 = some (toS () (firstO (fun i => if el (r.Firms.map (·.Name)) i = x then some (i : Int) else none) 0 r.Firms.length)) := by
    refine iter_first (step := fun w => mslices_IndexFunc_api_Firm_api_Firm_s1_l1_s r.Firms x w) (fun i => (i : Int)) _ _ _ ?_ ?_
    · intro i hi
      simp only [mslices_IndexFunc_api_Firm_api_Firm_s1_l1_s, mrealm_Firm_1_s1, lt_t hi, if_true, at_el _ _ hi, Option.bind_some, wrap_succ (show i < 9223372036854775807 by omega), strEq, decide_eq_true_eq, el_map (·.Name) _ _ hi]
      by_cases h : (el r.Firms i).Name = x <;> simp [h]
    · simp only [mslices_IndexFunc_api_Firm_api_Firm_s1_l1_s, lt_f, if_false]
  rw [this, List.length_map]
  generalize firstO _ 0 _ = o
  cases o <;> rfl
theorem city_at_eq (r : GRealm) (x : ByteArray) (hl : r.Cities.length < 1000000) : mrealm_City r x = some (idxOf (r.Cities.map (·.Name)) x) := by
  unfold mrealm_City mslices_IndexFunc_api_City_api_City_s1 idxOf
  have : mslices_IndexFunc_api_City_api_City_s1_l1 r.Cities x 0 = some (toS () (firstO (fun i => if el (r.Cities.map (·.Name)) i = x then some (i : Int) else none) 0 r.Cities.length)) := by
    refine iter_first (step := fun w => mslices_IndexFunc_api_City_api_City_s1_l1_s r.Cities x w) (fun i => (i : Int)) _ _ _ ?_ ?_
    · intro i hi
      simp only [mslices_IndexFunc_api_City_api_City_s1_l1_s, mrealm_City_1_s1, lt_t hi, if_true, at_el _ _ hi, Option.bind_some, wrap_succ (show i < 9223372036854775807 by omega), strEq, decide_eq_true_eq, el_map (·.Name) _ _ hi]
      by_cases h : (el r.Cities i).Name = x <;> simp [h]
    · simp only [mslices_IndexFunc_api_City_api_City_s1_l1_s, lt_f, if_false]
  rw [this, List.length_map]
  generalize firstO _ 0 _ = o
  cases o <;> rfl
theorem ref_firm_eq (r : GRealm) (x : ByteArray) (hl : r.Firms.length < 1000000) : mallongeref09_Firm r x = some (idxOf (r.Firms.map (·.Name)) x) := by
  unfold mallongeref09_Firm idxOf
  have : mallongeref09_Firm_l1 r x 0 = some (toS () (firstO (fun i => if el (r.Firms.map (·.Name)) i = x then some (i : Int) else none) 0 r.Firms.length)) := by
    refine iter_first (step := fun w => mallongeref09_Firm_l1_s r x w) (fun i => (i : Int)) _ _ _ ?_ ?_
    · intro i hi
      simp only [mallongeref09_Firm_l1_s, lt_t hi, if_true, at_el _ _ hi, Option.bind_some, wrap_succ (show i < 9223372036854775807 by omega), strEq, decide_eq_true_eq, el_map (·.Name) _ _ hi]
      by_cases h : (el r.Firms i).Name = x <;> simp [h]
    · simp only [mallongeref09_Firm_l1_s, lt_f, if_false]
  rw [this, List.length_map]
  generalize firstO _ 0 _ = o
  cases o <;> rfl
theorem ref_city_at_eq (r : GRealm) (x : ByteArray) (hl : r.Cities.length < 1000000) : mallongeref09_City r x = some (idxOf (r.Cities.map (·.Name)) x) := by
  unfold mallongeref09_City idxOf
  have : mallongeref09_City_l1 r x 0 = some (toS () (firstO (fun i => if el (r.Cities.map (·.Name)) i = x then some (i : Int) else none) 0 r.Cities.length)) := by
    refine iter_first (step := fun w => mallongeref09_City_l1_s r x w) (fun i => (i : Int)) _ _ _ ?_ ?_
    · intro i hi
      simp only [mallongeref09_City_l1_s, lt_t hi, if_true, at_el _ _ hi, Option.bind_some, wrap_succ (show i < 9223372036854775807 by omega), strEq, decide_eq_true_eq, el_map (·.Name) _ _ hi]
      by_cases h : (el r.Cities i).Name = x <;> simp [h]
    · simp only [mallongeref09_City_l1_s, lt_f, if_false]
  rw [this, List.length_map]
  generalize firstO _ 0 _ = o
  cases o <;> rfl
theorem ref09_sameInts_refl (l : List Int) (hl : l.length < 9223372036854775807) : mallongeref09_SameInts l l = some true := by
  unfold mallongeref09_SameInts
  have : mallongeref09_SameInts_l1 l l 0 = some (.inl ()) := by
    refine iter_all (step := fun w => mallongeref09_SameInts_l1_s l l w) (fun i => (i : Int)) l.length _ ?_ ?_
    · intro i hi
      simp only [mallongeref09_SameInts_l1_s, lt_t hi, if_true, at_el _ _ hi, Option.bind_some, wrap_succ (show i < 9223372036854775807 by omega), bne_self_eq_false, Bool.false_eq_true, if_false]
    · simp only [mallongeref09_SameInts_l1_s, lt_f, if_false]
  rw [this]
  simp
/-! a right realm -/
theorem fitsOf_zero {l : List ByteArray} {most : Nat} {F : Nat → Bool} : fitsOf l most F = 0 ↔ l.length ≤ most ∧ ∀ i, i < l.length → namedOf l i = 0 ∧ F i = true := by
  unfold fitsOf
  by_cases h : l.length ≤ most
  · rw [if_pos h, errN_zero]
    have key : ∀ i, fitErr l F i = 0 ↔ namedOf l i = 0 ∧ F i = true := by
      intro i
      unfold fitErr
      by_cases e : namedOf l i = 0
      · cases hF : F i <;> simp [e]
      · simp [e]
    simp only [key]
    exact ⟨fun q => ⟨h, q⟩, fun q => q.2⟩
  · rw [if_neg h]; simp [h]
theorem twice_iff {l : List ByteArray} {x : ByteArray} {n : Nat} : twiceB l x n = true ↔ ∃ j, j < n ∧ el l j = x := by
  unfold twiceB
  rcases firstS_cases (fun j => if el l j = x then some true else none) false n 0 with ⟨h1, h2⟩ | ⟨i, b, h1, h2, h3, h4, h5⟩
  · rw [h1]
    constructor
    · intro h; cases h
    · rintro ⟨j, hj, e⟩
      have := h2 j (Nat.zero_le _) (by omega)
      rw [if_pos e] at this; cases this
  · rw [h4]
    split at h3
    · rename_i e; cases h3; exact ⟨fun _ => ⟨i, by omega, e⟩, fun _ => rfl⟩
    · cases h3
theorem named_zero {l : List ByteArray} {i : Nat} : namedOf l i = 0 ↔ nameB (el l i) = true ∧ ∀ j, j < i → el l j ≠ el l i := by
  unfold namedOf
  have := twice_iff (l := l) (x := el l i) (n := i)
  cases hn : nameB (el l i) with
  | false => simp
  | true =>
    cases ht : twiceB l (el l i) i with
    | true =>
      rw [ht] at this
      obtain ⟨j, h1, h2⟩ := this.1 rfl
      simp only [if_true]
      exact ⟨fun q => absurd q (by decide), fun q => absurd h2 (q.2 j h1)⟩
    | false =>
      rw [ht] at this
      simp only [if_true]
      exact ⟨fun _ => ⟨trivial, fun j h1 h2 => by have := this.2 ⟨j, h1, h2⟩; cases this⟩, fun _ => by simp⟩
structure Right (r : GRealm) : Prop where
  cur : curOf r = 0
  cit : citOf r = 0
  grp : grpOf r = 0
  frm : frmOf r = 0
  ord : ordOf r = 0
  us : usOf r = 0
  rest : restOf r = 0
theorem check_zero {r : GRealm} : checkOf r = 0 ↔ Right r := by
  unfold checkOf
  simp only [orE_zero]
  exact ⟨fun ⟨a, b, c, d, e, f, g⟩ => ⟨a, b, c, d, e, f, g⟩, fun ⟨a, b, c, d, e, f, g⟩ => ⟨a, b, c, d, e, f, g⟩⟩
theorem Right.city {r : GRealm} (h : Right r) (i : Nat) (hi : i < r.Cities.length) : (0 ≤ (el r.Cities i).Order ∧ (el r.Cities i).Order < r.Orders.length) ∧ idxOf (r.Cities.map (·.Name)) (el r.Cities i).Name = i := by
  have hl : (r.Cities.map (·.Name)).length = r.Cities.length := by simp
  have q := (fitsOf_zero.1 h.cit).2 i (by omega)
  have q2 := (named_zero.1 q.1).2
  refine ⟨?_, idx_at i (by omega) (el_map _ _ _ hi) fun j hj => by have := q2 j hj; rwa [el_map _ _ i hi] at this⟩
  have := q.2
  unfold cityB at this
  simp only [Bool.and_eq_true, decide_eq_true_eq] at this
  exact this.2.2.2.1
theorem Right.firm {r : GRealm} (h : Right r) (i : Nat) (hi : i < r.Firms.length) : ((0 ≤ (el r.Firms i).City ∧ (el r.Firms i).City < r.Cities.length) ∧ 0 ≤ (el r.Firms i).Group ∧ (el r.Firms i).Group < r.Groups.length) ∧ ∀ j, j < i → (el r.Firms j).Name ≠ (el r.Firms i).Name := by
  have hl : (r.Firms.map (·.Name)).length = r.Firms.length := by simp
  have q := (fitsOf_zero.1 h.frm).2 i (by omega)
  have q2 := (named_zero.1 q.1).2
  refine ⟨?_, fun j hj => by have := q2 j hj; rwa [el_map _ _ i hi, el_map _ _ j (by omega)] at this⟩
  have := q.2
  unfold firmB at this
  simpa only [decide_eq_true_eq] using this
theorem Right.firmIdx {r : GRealm} (h : Right r) (i : Nat) (hi : i < r.Firms.length) : idxOf (r.Firms.map (·.Name)) (el r.Firms i).Name = i :=
  idx_at i (by simpa using hi) (el_map _ _ _ hi) fun j hj => by rw [el_map _ _ _ (by omega)]; exact (h.firm i hi).2 j hj
theorem Right.grade {r : GRealm} (h : Right r) (i : Nat) (hi : i < r.Groups.length) : 0 ≤ (el r.Groups i).Grade ∧ (el r.Groups i).Grade < 10 := by
  have q := h.grp
  unfold grpOf at q
  by_cases g : r.Groups.length ≤ 20
  · rw [if_pos g] at q
    cases b : allN (fun i => decide (0 ≤ (el r.Groups i).Grade ∧ (el r.Groups i).Grade < 10)) r.Groups.length with
    | false => rw [b] at q; cases q
    | true => simpa using allN_iff.1 b i hi
  · rw [if_neg g] at q; cases q
theorem cnt_split (f : Nat → Int) (g : Int) : ∀ l : List Nat, l.countP (fun k => decide (f k < g + 1)) = l.countP (fun k => decide (f k < g)) + l.countP (fun k => decide (f k = g))
  | [] => rfl
  | k :: l => by
    simp only [List.countP_cons, cnt_split f g l, decide_eq_true_eq]
    by_cases h1 : f k < g
    · rw [if_pos (by omega), if_pos h1, if_neg (by omega)]; omega
    · by_cases h2 : f k = g
      · rw [if_pos (by omega), if_neg h1, if_pos h2]; omega
      · rw [if_neg (by omega), if_neg h1, if_neg h2]; omega
/-! the laws -/
section
variable (hs : mallongelaw09_sane = some true)
include hs
theorem law9_tells (r : GRealm) (a b : Int) (name : ByteArray) (w : GRealm.wf r) : mallongelaw09_RealmTells r a b name = some true := by
  unfold mallongelaw09_RealmTells
  obtain ⟨x, e1, f⟩ := few_spec r
  rw [hs, e1]
  cases x with
  | false => rfl
  | true =>
    have f := f rfl
    have f1 := f.usa
    have f2 := f.cit
    have f3 := f.frm
    have f4 := f.grp
    simp only [Option.bind_some, usance_eq r a b (by omega), ref_usance_eq r a b (by omega), check_eq r f w, ref_check_eq r f w, orderAt_eq, ref_orderAt_eq r a (by omega), members_eq r a (by omega), ref_members_eq r a (by omega), ref09_sameInts_refl _ (show (membersOf r a).length < 9223372036854775807 by have := memTo_len r a r.Firms.length; unfold membersOf; omega), grade_eq, ref_grade_eq r a (by omega) (by omega), firm_eq r name (by omega), ref_firm_eq r name (by omega), city_at_eq r name (by omega), ref_city_at_eq r name (by omega)]
    simp
theorem law9_finds (r : GRealm) (w : GRealm.wf r) : mallongelaw09_RealmFinds r = some true := by
  unfold mallongelaw09_RealmFinds
  obtain ⟨x, e1, f⟩ := few_spec r
  rw [hs, e1]
  cases x with
  | false => rfl
  | true =>
    have f := f rfl
    have f2 := f.cit
    have f3 := f.frm
    simp only [Option.bind_some, Bool.not_true, Bool.false_eq_true, if_false, check_eq r f w, bne_iff_ne]
    by_cases h0 : checkOf r = 0
    · rw [if_neg (by simpa using h0)]
      have h := check_zero.1 h0
      have l1 : mallongelaw09_RealmFinds_l1 r true 0 = some (.inl ()) := by
        refine iter_all (step := fun w => mallongelaw09_RealmFinds_l1_s r true w) (fun i => (i : Int)) r.Cities.length _ ?_ ?_
        · intro i hi
          obtain ⟨q1, q2⟩ := h.city i hi
          have eo : orderAtOf r i = (el r.Cities i).Order := by unfold orderAtOf; rw [if_pos ⟨by omega, by omega⟩]; simp
          have n1 : ¬ (el r.Cities i).Order < 0 := by omega
          have n2 : ¬ (el r.Cities i).Order ≥ r.Orders.length := by omega
          simp only [mallongelaw09_RealmFinds_l1_s, lt_t hi, if_true, at_el _ _ hi, Option.bind_some, wrap_succ (show i < 9223372036854775807 by omega), orderAt_eq, city_at_eq r _ (show r.Cities.length < 1000000 by omega), q2, eo]
          simp [n1, n2]
        · simp only [mallongelaw09_RealmFinds_l1_s, lt_f, if_false]
      have l2 : mallongelaw09_RealmFinds_l2 r true 0 = some (.inl ()) := by
        refine iter_all (step := fun w => mallongelaw09_RealmFinds_l2_s r true w) (fun i => (i : Int)) r.Firms.length _ ?_ ?_
        · intro i hi
          obtain ⟨⟨q1, q3⟩, q2⟩ := h.firm i hi
          have q4 := h.grade (el r.Firms i).Group.toNat (by omega)
          have eo : gradeOf r i = (el r.Groups (el r.Firms i).Group.toNat).Grade := by
            unfold gradeOf
            rw [Int.toNat_natCast, if_pos ⟨by omega, by omega⟩, if_pos q3]
          have n1 : ¬ (el r.Groups (el r.Firms i).Group.toNat).Grade < 0 := by omega
          have n2 : ¬ (el r.Groups (el r.Firms i).Group.toNat).Grade > 9 := by omega
          have n3 : ¬ (el r.Firms i).City ≥ r.Cities.length := by omega
          simp only [mallongelaw09_RealmFinds_l2_s, lt_t hi, if_true, at_el _ _ hi, Option.bind_some, wrap_succ (show i < 9223372036854775807 by omega), grade_eq, firm_eq r _ (show r.Firms.length < 1000000 by omega), h.firmIdx i hi, eo]
          simp [n1, n2, n3]
        · simp only [mallongelaw09_RealmFinds_l2_s, lt_f, if_false]
      rw [l1]
      simp only [Option.bind_some, Sum.elim_inl, l2]
    · rw [if_pos (by simpa using h0)]
theorem law9_members (r : GRealm) (w : GRealm.wf r) : mallongelaw09_RealmMembers r = some true := by
  unfold mallongelaw09_RealmMembers
  obtain ⟨x, e1, f⟩ := few_spec r
  rw [hs, e1]
  cases x with
  | false => rfl
  | true =>
    have f := f rfl
    have f2 := f.grp
    have f3 := f.frm
    simp only [Option.bind_some, Bool.not_true, Bool.false_eq_true, if_false, check_eq r f w, bne_iff_ne]
    by_cases h0 : checkOf r = 0
    · rw [if_neg (by simpa using h0)]
      have h := check_zero.1 h0
      -- the members of a group
      have hm : ∀ g : Nat, ∀ i, i < (membersOf r g).length → ∃ k : Nat, el (membersOf r g) i = k ∧ k < r.Firms.length ∧ (el r.Firms k).Group = g := by
        intro g i hi
        have := el_mem _ i hi
        generalize el (membersOf r g) i = x at this
        unfold membersOf memTo at this
        obtain ⟨k, hk, rfl⟩ := List.mem_map.1 this
        have hk := List.mem_filter.1 hk
        exact ⟨k, rfl, by simpa using hk.1, by simpa using hk.2⟩
      have hp : ∀ g : Nat, ∀ i, 0 < i → i < (membersOf r g).length → el (membersOf r g) (i - 1) < el (membersOf r g) i := by
        intro g i h1 h2
        have hpw : (membersOf r g).Pairwise (· < ·) := by
          unfold membersOf memTo
          rw [List.pairwise_map]
          refine List.Pairwise.imp (fun {a b} q => ?_) (List.Pairwise.filter _ List.pairwise_lt_range)
          exact Int.ofNat_lt.2 q
        have := List.pairwise_iff_getElem.1 hpw (i - 1) i (by omega) h2 (by omega)
        rwa [el_lt _ _ (by omega), el_lt _ _ h2]
      have l2 : ∀ (g : Nat) (c : Nat), g < r.Groups.length → c < 1000000 → mallongelaw09_RealmMembers_l2 r g true (membersOf r g) c 0 = some (.inl ((c + (membersOf r g).length : Nat) : Int)) := by
        intro g c hg hc
        have hlm := memTo_len r g r.Firms.length
        have hlm : (membersOf r g).length ≤ r.Firms.length := hlm
        refine iter_all (step := fun w => mallongelaw09_RealmMembers_l2_s r g true (membersOf r g) w.1 w.2) (fun i => (((c + i : Nat) : Int), (i : Int))) (membersOf r g).length _ ?_ ?_
        · intro i hi
          obtain ⟨k, e1, hk, hkg⟩ := hm g i hi
          have hf := h.firm k hk
          have hj : mallongelaw09_RealmMembers_j1 r g ((c + i : Nat) : Int) i true (membersOf r g) = some (.inl ()) := by
            have eo : gradeOf r k = (el r.Groups g).Grade := by
              unfold gradeOf
              rw [Int.toNat_natCast, if_pos ⟨by omega, by omega⟩, if_pos hf.1.2, hkg, Int.toNat_natCast]
            simp only [mallongelaw09_RealmMembers_j1, at_el _ _ hi, e1, Option.bind_some, at_el r.Firms k hk, hkg, grade_eq, eo, at_el r.Groups g hg]
            simp
          have n1 : ¬ (k : Int) < 0 := by omega
          have n2 : ¬ (k : Int) ≥ r.Firms.length := by omega
          simp only [mallongelaw09_RealmMembers_l2_s, lt_t hi, if_true, at_el _ _ hi, Option.bind_some, e1, hj, n1, n2, wrap_succ (show i < 9223372036854775807 by omega), wrap_succ (show c + i < 9223372036854775807 by omega), Sum.elim_inl, decide_false, Bool.false_eq_true, if_false]
          by_cases h3 : 0 < i
          · have e3 : IntKind.wrap .i64 ((i : Int) - 1) = ((i - 1 : Nat) : Int) := by rw [wrap_id (by omega) (by omega)]; omega
            have n3 : (i : Int) > 0 := by omega
            have n4 := hp g i h3 hi
            rw [e1] at n4
            have n5 : ¬ el (membersOf r g) (i - 1) ≥ k := by omega
            simp only [e3, n3, at_el _ (i - 1) (show i - 1 < (membersOf r g).length by omega), Option.bind_some, n5, decide_true, decide_false, if_true, Bool.false_eq_true, if_false]
            rfl
          · have n3 : ¬ (i : Int) > 0 := by omega
            simp only [n3, decide_false, Bool.false_eq_true, if_false]
            rfl
        · simp only [mallongelaw09_RealmMembers_l2_s, lt_f, if_false]
      have l3 : mallongelaw09_RealmMembers_l3 r true 0 0 = some (.inl (r.Firms.length : Int)) := by
        have hfin : (List.range r.Firms.length).countP (fun k => decide ((el r.Firms k).Group < (r.Groups.length : Int))) = r.Firms.length := by
          rw [List.countP_eq_length.2]
          · simp
          · intro k hk
            have := (h.firm k (by simpa using hk)).1.2.2
            simpa using this
        have h0' : (List.range r.Firms.length).countP (fun k => decide ((el r.Firms k).Group < ((0 : Nat) : Int))) = 0 := by
          rw [List.countP_eq_zero]
          intro k hk
          have := (h.firm k (by simpa using hk)).1.2.1
          simp; omega
        have := iter_all (step := fun w => mallongelaw09_RealmMembers_l3_s r true w.1 w.2) (fun g => ((((List.range r.Firms.length).countP (fun k => decide ((el r.Firms k).Group < (g : Int))) : Nat) : Int), (g : Int))) r.Groups.length (.inl (r.Firms.length : Int)) ?_ ?_
        · simp only [h0'] at this
          exact this
        · intro g hg
          have hle : (List.range r.Firms.length).countP (fun k => decide ((el r.Firms k).Group < (g : Int))) ≤ r.Firms.length := by
            refine Nat.le_trans List.countP_le_length (by simp)
          have hc : (membersOf r g).length = (List.range r.Firms.length).countP (fun k => decide ((el r.Firms k).Group = (g : Int))) := by
            unfold membersOf memTo
            rw [List.length_map, List.countP_eq_length_filter]
          have hl2 := l2 g ((List.range r.Firms.length).countP (fun k => decide ((el r.Firms k).Group < (g : Int)))) hg (by omega)
          simp only [mallongelaw09_RealmMembers_l3_s, lt_t hg, if_true, members_eq r g (show r.Firms.length < 1000000 by omega), Option.bind_some, hl2, Sum.elim_inl, wrap_succ (show g < 9223372036854775807 by omega)]
          rw [hc, ← cnt_split]
          rfl
        · simp only [mallongelaw09_RealmMembers_l3_s, lt_f, if_false, hfin]
      rw [l3]
      have hnone : ∀ g : Int, (g < 0 ∨ (r.Groups.length : Int) ≤ g) → membersOf r g = [] := by
        intro g hg
        unfold membersOf memTo
        rw [List.map_eq_nil_iff, List.filter_eq_nil_iff]
        intro k hk
        have := (h.firm k (by simpa using hk)).1.2
        simp; omega
      simp [members_eq r _ (show r.Firms.length < 1000000 by omega), hnone (r.Groups.length : Int) (by omega), hnone (-1) (by omega)]
    · rw [if_pos (by simpa using h0)]
end
/-! usances -/
def uKey (x y : GUsance) : Prop := x.From = y.From ∧ x.To = y.To
def uFine (r : GRealm) (x : GUsance) : Prop := (0 ≤ x.From ∧ x.From < r.Cities.length) ∧ (0 ≤ x.To ∧ x.To < r.Cities.length) ∧ 1 ≤ x.Days ∧ x.Days ≤ 20000
theorem usOf_zero {r : GRealm} : usOf r = 0 ↔ r.Usances.length ≤ 100 ∧ (∀ x ∈ r.Usances, uFine r x) ∧ r.Usances.Pairwise fun x y => ¬ uKey x y := by
  unfold usOf
  by_cases h : r.Usances.length ≤ 100
  · rw [if_pos h, errN_zero]
    have key : ∀ i, usErr r i = 0 ↔ uFine r (el r.Usances i) ∧ ∀ k, k < i → ¬ uKey (el r.Usances k) (el r.Usances i) := by
      intro i
      unfold usErr
      have hb : allN (fun k => !usB r i k) i = true ↔ ∀ k, k < i → ¬ uKey (el r.Usances k) (el r.Usances i) := by
        rw [allN_iff]
        simp only [usB, uKey, Bool.not_eq_true', decide_eq_false_iff_not]
      rw [← hb]
      unfold uFine
      by_cases g : (0 ≤ (el r.Usances i).From ∧ (el r.Usances i).From < r.Cities.length) ∧ (0 ≤ (el r.Usances i).To ∧ (el r.Usances i).To < r.Cities.length) ∧ 1 ≤ (el r.Usances i).Days ∧ (el r.Usances i).Days ≤ 20000
      · rw [if_pos g]
        cases allN (fun k => !usB r i k) i <;> simp [g]
      · rw [if_neg g]
        exact ⟨fun q => absurd q (by decide), fun q => absurd q.1 g⟩
    simp only [key]
    constructor
    · intro q
      refine ⟨h, fun x hx => ?_, ?_⟩
      · obtain ⟨i, hi, rfl⟩ := mem_el hx
        exact (q i hi).1
      · rw [List.pairwise_iff_getElem]
        intro i j hi hj hij
        have := (q j hj).2 i hij
        rwa [el_lt _ _ hi, el_lt _ _ hj] at this
    · rintro ⟨_, q1, q2⟩ i hi
      refine ⟨q1 _ (el_mem _ i hi), fun k hk => ?_⟩
      have := List.pairwise_iff_getElem.1 q2 k i (by omega) hi hk
      rwa [el_lt _ _ hi, el_lt _ k (by omega)]
  · rw [if_neg h]; simp [h]
theorem uKey_one : ∀ {l : List GUsance}, (l.Pairwise fun x y => ¬ uKey x y) → ∀ x ∈ l, ∀ y ∈ l, uKey x y → x = y
  | [], _, x, hx, _, _, _ => by cases hx
  | a :: l, h, x, hx, y, hy, k => by
    obtain ⟨h1, h2⟩ := List.pairwise_cons.1 h
    rcases List.mem_cons.1 hx with rfl | hx'
    · rcases List.mem_cons.1 hy with rfl | hy'
      · rfl
      · exact absurd k (h1 y hy')
    · rcases List.mem_cons.1 hy with rfl | hy'
      · exact absurd ⟨k.1.symm, k.2.symm⟩ (h1 x hx')
      · exact uKey_one h2 x hx' y hy' k
theorem usance_cases (r : GRealm) (a b : Int) : (∃ x ∈ r.Usances, x.From = a ∧ x.To = b ∧ usanceOf r a b = (x.Days, 0)) ∨ ((∀ x ∈ r.Usances, ¬ (x.From = a ∧ x.To = b)) ∧ usanceOf r a b = (0, 4)) := by
  unfold usanceOf
  cases h : firstO (fun i => if (el r.Usances i).From = a ∧ (el r.Usances i).To = b then some (el r.Usances i).Days else none) 0 r.Usances.length with
  | none =>
    refine .inr ⟨fun x hx => ?_, rfl⟩
    obtain ⟨i, hi, rfl⟩ := mem_el hx
    have := (firstO_none _ 0).1 h i (Nat.zero_le _) (by omega)
    intro q
    rw [if_pos q] at this; cases this
  | some d =>
    obtain ⟨i, _, hi, h3, _⟩ := firstO_some _ 0 h
    split at h3
    · rename_i q
      cases h3
      exact .inl ⟨_, el_mem _ i (by omega), q.1, q.2, rfl⟩
    · cases h3
theorem sliceL_take {α : Type} (l : List α) (k : Nat) : sliceL l 0 (k : Int) = l.take k := by simp [sliceL]
theorem sliceL_drop {α : Type} (l : List α) (k : Nat) : sliceL l (k : Int) (l.length : Int) = l.drop k := by simp [sliceL]
section
variable (hs : mallongelaw09_sane = some true)
include hs
theorem law9_usances (r : GRealm) (a b first : Int) (w : GRealm.wf r) : mallongelaw09_RealmUsances r a b first = some true := by
  unfold mallongelaw09_RealmUsances
  obtain ⟨x, e1, f⟩ := few_spec r
  rw [hs, e1]
  cases x with
  | false => rfl
  | true =>
    have f := f rfl
    have f1 := f.usa
    simp only [Option.bind_some, Bool.not_true, Bool.false_eq_true, if_false, check_eq r f w, bne_iff_ne, decide_eq_true_eq]
    by_cases h0 : checkOf r = 0
    · rw [if_neg (by simpa using h0)]
      have h := check_zero.1 h0
      by_cases g1 : first < 0
      · rw [if_pos g1]
      rw [if_neg g1]
      by_cases g2 : first > r.Usances.length
      · rw [if_pos g2]
      rw [if_neg g2]
      obtain ⟨k, rfl⟩ : ∃ k : Nat, first = k := ⟨first.toNat, by omega⟩
      rw [if_pos (show sliceOk r.Usances.length (k : Int) r.Usances.length from ⟨by omega, by omega, by omega⟩), if_pos (show sliceOk r.Usances.length 0 (k : Int) from ⟨by omega, by omega, by omega⟩), sliceL_take, sliceL_drop, if_pos (by simp; omega), if_pos (by simp; omega)]
      simp only [List.nil_append]
      generalize hT : GRealm.mk r.Currencies r.Cities r.Groups r.Firms r.Orders (r.Usances.drop k ++ r.Usances.take k) r.Rates r.Halts = T
      have hTu : T.Usances = r.Usances.drop k ++ r.Usances.take k := by subst hT; rfl
      have hp : T.Usances.Perm r.Usances := by
        rw [hTu]
        have h1 : (r.Usances.drop k ++ r.Usances.take k).Perm (r.Usances.take k ++ r.Usances.drop k) := List.perm_append_comm
        rwa [List.take_append_drop] at h1
      have hTl : T.Usances.length = r.Usances.length := hp.length_eq
      have fT : FewL T := by
        subst hT
        exact ⟨f.cur, f.cit, f.grp, f.frm, f.ord, by rw [hTl]; exact f1, f.rat, f.hal, f.cityL, f.orderL⟩
      have wT : GRealm.wf T := by
        obtain ⟨w1, w2, w3, w4, w5, w6, w7, w8⟩ := w
        have w6' : Wl GUsance.wf T.Usances := ⟨by rw [hTl]; exact w6.1, fun x hx => w6.2 x (hp.mem_iff.1 hx)⟩
        subst hT
        exact ⟨w1, w2, w3, w4, w5, w6', w7, w8⟩
      obtain ⟨u1, u2, u3⟩ := usOf_zero.1 h.us
      have hTz : usOf T = 0 := usOf_zero.2 ⟨by omega, fun x hx => by
        have := u2 x (hp.mem_iff.1 hx)
        subst hT
        exact this, (List.Perm.pairwise_iff (fun {x y} q e => q ⟨e.1.symm, e.2.symm⟩) hp).2 u3⟩
      have hTR : Right T := by
        subst hT
        exact ⟨h.cur, h.cit, h.grp, h.frm, h.ord, hTz, h.rest⟩
      have hsame : usanceOf T a b = usanceOf r a b := by
        rcases usance_cases r a b with ⟨x, hx, q1, q2, q3⟩ | ⟨q1, q2⟩
        · rcases usance_cases T a b with ⟨y, hy, p1, p2, p3⟩ | ⟨p1, p2⟩
          · have := uKey_one u3 x hx y (hp.mem_iff.1 hy) ⟨by omega, by omega⟩
            rw [q3, p3, this]
          · exact absurd ⟨q1, q2⟩ (p1 x (hp.mem_iff.2 hx))
        · rcases usance_cases T a b with ⟨y, hy, p1, p2, p3⟩ | ⟨p1, p2⟩
          · exact absurd ⟨p1, p2⟩ (q1 y (hp.mem_iff.1 hy))
          · rw [q2, p2]
      rw [usance_eq r a b (by omega), usance_eq T a b (by omega), check_eq T fT wT, check_zero.2 hTR, hsame]
      have hloop : ∀ v, mallongelaw09_RealmUsances_l1 r a b k true (usanceOf r a b) v false 0 = some (!allN (fun i => !decide ((el r.Usances i).From = a ∧ (el r.Usances i).To = b ∧ (el r.Usances i).Days = (usanceOf r a b).1)) r.Usances.length) := by
        intro v
        refine iter_all (step := fun w => mallongelaw09_RealmUsances_l1_s r a b k true (usanceOf r a b) v w.1 w.2) (fun i => ((!allN (fun i => !decide ((el r.Usances i).From = a ∧ (el r.Usances i).To = b ∧ (el r.Usances i).Days = (usanceOf r a b).1)) i), (i : Int))) r.Usances.length _ ?_ ?_
        · intro i hi
          simp only [mallongelaw09_RealmUsances_l1_s, lt_t hi, if_true, at_el _ _ hi, Option.bind_some, wrap_succ (show i < 9223372036854775807 by omega), allN]
          generalize allN _ i = c
          by_cases z1 : (el r.Usances i).From = a <;> by_cases z2 : (el r.Usances i).To = b <;> by_cases z3 : (el r.Usances i).Days = (usanceOf r a b).1 <;> cases c <;> simp [z1, z2, z3]
        · simp only [mallongelaw09_RealmUsances_l1_s, lt_f, if_false]
      simp only [Option.bind_some, hloop]
      have hfound : (!allN (fun i => !decide ((el r.Usances i).From = a ∧ (el r.Usances i).To = b ∧ (el r.Usances i).Days = (usanceOf r a b).1)) r.Usances.length) = ((usanceOf r a b).2 == 0) := by
        rcases usance_cases r a b with ⟨x, hx, q1, q2, q3⟩ | ⟨q1, q2⟩
        · obtain ⟨i, hi, rfl⟩ := mem_el hx
          rw [q3]
          simp only [beq_self_eq_true, Bool.not_eq_true']
          cases c : allN (fun i_1 => !decide ((el r.Usances i_1).From = a ∧ (el r.Usances i_1).To = b ∧ (el r.Usances i_1).Days = (el r.Usances i).Days)) r.Usances.length with
          | false => rfl
          | true =>
            have := allN_iff.1 c i hi
            simp [q1, q2] at this
        · rw [q2]
          have : allN (fun i => !decide ((el r.Usances i).From = a ∧ (el r.Usances i).To = b ∧ (el r.Usances i).Days = 0)) r.Usances.length = true := by
            rw [allN_iff]
            intro i hi
            have := q1 _ (el_mem _ i hi)
            simp only [Bool.not_eq_true', decide_eq_false_iff_not]
            exact fun q => this ⟨q.1, q.2.1⟩
          rw [this]; rfl
      rw [hfound]
      rcases usance_cases r a b with ⟨x, hx, q1, q2, q3⟩ | ⟨q1, q2⟩
      · rw [q3]; simp
      · rw [q2]; simp
    · rw [if_pos (by simpa using h0)]
theorem law9_less (r : GRealm) (i : Int) (w : GRealm.wf r) : mallongelaw09_RealmLess r i = some true := by
  unfold mallongelaw09_RealmLess
  obtain ⟨x, e1, f⟩ := few_spec r
  rw [hs, e1]
  cases x with
  | false => rfl
  | true =>
    have f := f rfl
    have f1 := f.frm
    simp only [Option.bind_some, Bool.not_true, Bool.false_eq_true, if_false, check_eq r f w, bne_iff_ne, decide_eq_true_eq]
    by_cases h0 : checkOf r = 0
    · rw [if_neg (by simpa using h0)]
      have h := check_zero.1 h0
      by_cases g0 : r.Firms.length = 0
      · rw [if_pos (by simp [g0])]
      rw [if_neg (by simpa using g0)]
      by_cases g1 : i < 0
      · rw [if_pos g1]
      rw [if_neg g1]
      obtain ⟨m, hm⟩ : ∃ m : Nat, r.Firms.length = m + 1 := ⟨r.Firms.length - 1, by omega⟩
      have e2 : IntKind.wrap .i64 ((r.Firms.length : Int) - 1) = (m : Int) := by rw [wrap_id (by omega) (by omega)]; omega
      rw [e2]
      by_cases g2 : i ≥ (m : Int)
      · rw [if_pos g2]
      rw [if_neg g2]
      obtain ⟨k, rfl⟩ : ∃ k : Nat, i = k := ⟨i.toNat, by omega⟩
      have hk : k < m := by omega
      rw [if_pos (show sliceOk r.Firms.length 0 (m : Int) from ⟨by omega, by omega, by omega⟩), sliceL_take, at_el r.Firms m (by omega), at_el r.Firms k (by omega)]
      generalize hT : GRealm.mk r.Currencies r.Cities r.Groups (r.Firms.take m) r.Orders r.Usances r.Rates r.Halts = T
      have hTf : T.Firms = r.Firms.take m := by subst hT; rfl
      have hTl : T.Firms.length = m := by rw [hTf]; simp; omega
      have hTe : ∀ j, j < m → el T.Firms j = el r.Firms j := by
        intro j hj
        rw [el_lt _ _ (by omega), el_lt _ _ (by omega)]
        simp [hTf]
      have fT : FewL T := by
        subst hT
        exact ⟨f.cur, f.cit, f.grp, by rw [hTl]; omega, f.ord, f.usa, f.rat, f.hal, f.cityL, f.orderL⟩
      have wT : GRealm.wf T := by
        obtain ⟨w1, w2, w3, w4, w5, w6, w7, w8⟩ := w
        have w4' : Wl GFirm.wf T.Firms := ⟨by rw [hTl]; have := w4.1; omega, fun x hx => w4.2 x (by rw [hTf] at hx; exact List.mem_of_mem_take hx)⟩
        subst hT
        exact ⟨w1, w2, w3, w4', w5, w6, w7, w8⟩
      have hTz : frmOf T = 0 := by
        have q := fitsOf_zero.1 h.frm
        rw [List.length_map] at q
        refine fitsOf_zero.2 ⟨by rw [List.length_map, hTl]; omega, fun j hj => ?_⟩
        rw [List.length_map, hTl] at hj
        have q := q.2 j (by omega)
        have hn := named_zero.1 q.1
        rw [el_map _ _ j (by omega)] at hn
        constructor
        · rw [named_zero, el_map _ _ j (by omega), hTe j hj]
          exact ⟨hn.1, fun i hi => by rw [el_map _ _ i (by omega), hTe i (by omega)]; have := hn.2 i hi; rwa [el_map _ _ i (by omega)] at this⟩
        · rw [hTe j hj]
          have := q.2
          subst hT
          exact this
      have hTR : Right T := by
        subst hT
        exact ⟨h.cur, h.cit, h.grp, hTz, h.ord, h.us, h.rest⟩
      have hg : gradeOf T k = gradeOf r k := by
        unfold gradeOf
        rw [if_pos (show 0 ≤ (k : Int) ∧ (k : Int) < T.Firms.length from ⟨by omega, by omega⟩), if_pos (show 0 ≤ (k : Int) ∧ (k : Int) < r.Firms.length from ⟨by omega, by omega⟩), Int.toNat_natCast, hTe k hk]
        subst hT
        rfl
      have hg2 : gradeOf T ((T.Firms.length : Nat) : Int) = -1 := by
        unfold gradeOf
        rw [if_neg (by omega)]
      have hi1 := hTR.firmIdx k (by omega)
      rw [hTe k hk] at hi1
      have hi2 : idxOf (T.Firms.map (·.Name)) (el r.Firms m).Name = -1 := by
        refine idx_none fun j hj => ?_
        rw [List.length_map, hTl] at hj
        rw [el_map _ _ j (by omega), hTe j hj]
        exact (h.firm m (by omega)).2 j hj
      have hTl2 : (List.take m r.Firms).length = T.Firms.length := by rw [hTf]
      simp only [Option.bind_some, check_eq T fT wT, check_zero.2 hTR, grade_eq, hg, firm_eq T _ (show T.Firms.length < 1000000 by omega), hi1, hi2, hTl2, hg2]
      simp
    · rw [if_pos (by simpa using h0)]
end
end Go.Proofs.Ytdjfaepokfdihaa
