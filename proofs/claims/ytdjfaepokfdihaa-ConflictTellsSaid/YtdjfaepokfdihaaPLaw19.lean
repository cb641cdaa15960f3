/- The laws of layer 19, as plain laws. -/
import Derived.Test.YtdjfaepokfdihaaPConflict
set_option linter.unusedVariables false
set_option linter.unusedSimpArgs false
namespace Go.Proofs.Ytdjfaepokfdihaa
open Go.RowKit Vm

theorem byOk_of (r : GRealm) (f : FewL r) (h : RightR r) : ByOk r := fun i hi => ⟨(f.orderL i hi).1, (h.orders.2 i hi).by_⟩

/-! the path, whatever the choices are -/
section
variable {L L' : Int → Int × Bool} {acc acc' : Int → Bool}
theorem lawR_prefix : ∀ (k : Nat) (p : List Int), ∃ q, (lawR L acc k p).2 = p ++ q
  | 0, p => ⟨[], by simp [lawR]⟩
  | k + 1, p => by
    simp only [lawR]
    split
    · exact ⟨[], by simp⟩
    split
    · exact ⟨_, rfl⟩
    split
    · split <;> exact ⟨_, rfl⟩
    · obtain ⟨q, hq⟩ := lawR_prefix k (p ++ [(L (el p (p.length - 1))).1])
      exact ⟨_, by rw [hq, List.append_assoc]⟩
theorem last_mem {p : List Int} (h : p ≠ []) : el p (p.length - 1) ∈ p := by
  have : 0 < p.length := by cases p with
    | nil => exact absurd rfl h
    | cons x l => simp
  exact el_mem p _ (by omega)
/-- what is not on the path does not matter -/
theorem lawR_local : ∀ (k : Nat) (p : List Int), p ≠ [] → (∀ x ∈ (lawR L acc k p).2, L' x = L x ∧ acc' x = acc x) → lawR L' acc' k p = lawR L acc k p
  | 0, p, _, _ => rfl
  | k + 1, p, hp, h => by
    have hl : L' (el p (p.length - 1)) = L (el p (p.length - 1)) := by
      obtain ⟨q, hq⟩ := lawR_prefix (L := L) (acc := acc) (k + 1) p
      exact (h _ (by rw [hq]; exact List.mem_append.2 (.inl (last_mem hp)))).1
    simp only [lawR, hl] at h ⊢
    split
    · rfl
    rename_i h1
    rw [if_neg h1] at h
    split
    · rfl
    rename_i h2
    rw [if_neg h2] at h
    split
    · rename_i h3
      rw [if_pos h3] at h
      have ha : acc' (L (el p (p.length - 1))).1 = acc (L (el p (p.length - 1))).1 := by
        split at h
        · exact (h _ (by simp)).2
        · exact (h _ (by simp)).2
      rw [ha]
    · rename_i h3
      rw [if_neg h3] at h
      exact lawR_local k _ (by simp) h
theorem el_app_lt (p q : List Int) (i : Nat) (h : i < p.length) : el (p ++ q) i = el p i := by
  rw [el_lt _ _ (by simp; omega), el_lt _ _ h, List.getElem_append_left h]
theorem el_app_eq (p : List Int) (x : Int) : el (p ++ [x]) p.length = x := by
  rw [el_lt _ _ (by simp), List.getElem_append_right (by omega)]
  simp
/-- a path that goes on -/
structure Cont (L : Int → Int × Bool) (n : Nat) (p : List Int) : Prop where
  ne : p ≠ []
  nd : p.Nodup
  inn : ∀ x ∈ p, 0 ≤ x ∧ x < (n : Int)
  ch : ∀ i, i + 1 < p.length → L (el p i) = (el p (i + 1), true)
/-- a path as the law says it is -/
structure PathOk (L : Int → Int × Bool) (n : Nat) (q : List Int) : Prop where
  len : 0 < q.length ∧ q.length ≤ n + 1
  inn : ∀ x ∈ q, 0 ≤ x ∧ x < (n : Int)
  new : ∀ i j, i + 1 < q.length → j < i → el q j ≠ el q i
  ch : ∀ i, i + 1 < q.length → (L (el q i)).1 = el q (i + 1) ∧ (L (el q i)).1 ≠ el q i
  whole : ∀ i, i + 2 < q.length → (L (el q i)).2 = true
  one : q.length = 1 → (L (el q 0)).1 = el q 0
theorem el_inj {p : List Int} (h : p.Nodup) {i j : Nat} (hi : i < p.length) (hj : j < p.length) (e : el p i = el p j) : i = j := by
  rw [el_lt p i hi, el_lt p j hj] at e
  exact (List.getElem_inj h).1 e
theorem Cont.stop {n : Nat} {p : List Int} (c : Cont L n p) (hn : p.length ≤ n) (h : (L (el p (p.length - 1))).1 = el p (p.length - 1)) : PathOk L n p := by
  have hl : 0 < p.length := by
    have := c.ne
    cases p with
    | nil => exact absurd rfl this
    | cons x l => simp
  refine ⟨⟨hl, by omega⟩, c.inn, fun i j hi hj e => ?_, fun i hi => ?_, fun i hi => by rw [c.ch i (by omega)], fun h1 => by simpa [h1] using h⟩
  · have := el_inj c.nd (by omega) (by omega) e; omega
  · rw [c.ch i hi]
    exact ⟨rfl, fun e => by have := el_inj c.nd (by omega) (by omega) e; omega⟩
theorem Cont.last {n : Nat} {p : List Int} (c : Cont L n p) (hn : p.length ≤ n) (h : (L (el p (p.length - 1))).1 ≠ el p (p.length - 1)) (hx : 0 ≤ (L (el p (p.length - 1))).1 ∧ (L (el p (p.length - 1))).1 < (n : Int)) : PathOk L n (p ++ [(L (el p (p.length - 1))).1]) := by
  have hl : 0 < p.length := by
    have := c.ne
    cases p with
    | nil => exact absurd rfl this
    | cons x l => simp
  have hlen : (p ++ [(L (el p (p.length - 1))).1]).length = p.length + 1 := by simp
  refine ⟨⟨by omega, by omega⟩, fun x hx' => ?_, fun i j hi hj e => ?_, fun i hi => ?_, fun i hi => ?_, fun h1 => by omega⟩
  · rcases List.mem_append.1 hx' with q | q
    · exact c.inn x q
    · simp at q; subst q; exact hx
  · rw [hlen] at hi
    rw [el_app_lt _ _ _ (by omega), el_app_lt _ _ _ (by omega)] at e
    have := el_inj c.nd (by omega) (by omega) e; omega
  · rw [hlen] at hi
    rw [el_app_lt _ _ _ (by omega)]
    by_cases hi' : i + 1 < p.length
    · rw [el_app_lt _ _ _ hi', c.ch i hi']
      exact ⟨rfl, fun e => by have := el_inj c.nd (by omega) (by omega) e; omega⟩
    · obtain rfl : i = p.length - 1 := by omega
      rw [show p.length - 1 + 1 = p.length by omega, el_app_eq]
      exact ⟨rfl, h⟩
  · rw [hlen] at hi
    rw [el_app_lt _ _ _ (by omega), c.ch i (by omega)]
theorem Cont.go {n : Nat} {p : List Int} (c : Cont L n p) (h2 : (L (el p (p.length - 1))).2 ≠ false) (h3 : (L (el p (p.length - 1))).1 ∉ p) (hx : 0 ≤ (L (el p (p.length - 1))).1 ∧ (L (el p (p.length - 1))).1 < (n : Int)) : Cont L n (p ++ [(L (el p (p.length - 1))).1]) := by
  have hl : 0 < p.length := by
    have := c.ne
    cases p with
    | nil => exact absurd rfl this
    | cons x l => simp
  refine ⟨by simp, ?_, fun x hx' => ?_, fun i hi => ?_⟩
  · rw [List.nodup_append]
    exact ⟨c.nd, by simp, fun x hx y hy => by simp at hy; subst hy; exact fun e => h3 (e ▸ hx)⟩
  · rcases List.mem_append.1 hx' with q | q
    · exact c.inn x q
    · simp at q; subst q; exact hx
  · simp only [List.length_append, List.length_singleton] at hi
    rw [el_app_lt _ _ _ (by omega)]
    by_cases hi' : i + 1 < p.length
    · rw [el_app_lt _ _ _ hi', c.ch i hi']
    · obtain rfl : i = p.length - 1 := by omega
      rw [show p.length - 1 + 1 = p.length by omega, el_app_eq]
      generalize L (el p (p.length - 1)) = z at h2
      obtain ⟨a, b⟩ := z
      cases b with
      | false => exact absurd rfl h2
      | true => rfl
theorem lawR_ok {n : Nat} (hL : ∀ x, 0 ≤ x → x < (n : Int) → 0 ≤ (L x).1 ∧ (L x).1 < (n : Int)) : ∀ (k : Nat) (p : List Int), Cont L n p → n + 1 = p.length + k →
    PathOk L n (lawR L acc k p).2 ∧ ((lawR L acc k p).1 = 0 ∨ (lawR L acc k p).1 = 12 ∧ ∃ x, 0 ≤ x ∧ x < (n : Int) ∧ acc x = false)
  | 0, p, c, hk => by
    have := nodup_le n p c.nd c.inn
    omega
  | k + 1, p, c, hk => by
    have hle := nodup_le n p c.nd c.inn
    have hm := c.inn _ (last_mem c.ne)
    have hx := hL _ hm.1 hm.2
    simp only [lawR]
    split
    · rename_i h1; exact ⟨c.stop hle h1, .inl rfl⟩
    rename_i h1
    split
    · exact ⟨c.last hle h1 hx, .inl rfl⟩
    rename_i h2
    split
    · split
      · exact ⟨c.last hle h1 hx, .inl rfl⟩
      · rename_i h4; exact ⟨c.last hle h1 hx, .inr ⟨rfl, _, hx.1, hx.2, by simpa using h4⟩⟩
    · rename_i h3
      exact lawR_ok hL k _ (c.go h2 h3 hx) (by simp; omega)
end
theorem cont_one (L : Int → Int × Bool) (n : Nat) (x : Int) (h : 0 ≤ x ∧ x < (n : Int)) : Cont L n [x] := ⟨by simp, by simp, fun y hy => by simp at hy; subst hy; exact h, fun i hi => by simp at hi⟩
theorem sameInts_refl (l : List Int) (hl : l.length < 9223372036854775807) : mallongeref06_SameInts l l = some true := by
  unfold mallongeref06_SameInts
  have : mallongeref06_SameInts_l1 l l 0 = some (.inl ()) := by
    refine iter_all (step := fun w => mallongeref06_SameInts_l1_s l l w) (fun i => (i : Int)) l.length _ ?_ ?_
    · intro i hi
      simp only [mallongeref06_SameInts_l1_s, lt_t hi, if_true, at_el _ _ hi, Option.bind_some, wrap_succ (show i < 9223372036854775807 by omega), bne_self_eq_false, Bool.false_eq_true, if_false]
    · simp only [mallongeref06_SameInts_l1_s, lt_f, if_false]
  rw [this]
  simp

/-- the answer of Law, and what it says -/
theorem law_spec (r : GRealm) (forum ask : Int) (pl : List Int) (hb : ByOk r) (hn : r.Orders.length < 50) (hf : FineQ r forum ask pl) :
    PathOk (leadOf r ask pl) r.Orders.length (lawOf r forum ask pl).2 ∧ ((lawOf r forum ask pl).1 = 0 ∨ (lawOf r forum ask pl).1 = 12 ∧ ∃ x, 0 ≤ x ∧ x < (r.Orders.length : Int) ∧ accOf r x = false) ∧ ∃ q, (lawOf r forum ask pl).2 = [forum] ++ q := by
  have h := lawR_ok (L := leadOf r ask pl) (acc := accOf r) (n := r.Orders.length) (fun x h1 h2 => leadOf_in r x ask pl hb ⟨h1, h2, hf.2.2⟩) r.Orders.length [forum] (cont_one _ _ _ ⟨hf.1, hf.2.1⟩) (by simp; omega)
  exact ⟨h.1, h.2, lawR_prefix _ _⟩
/-- what the law does before it asks -/
theorem law_cases (r : GRealm) (forum ask : Int) (pl : List Int) (hb : ByOk r) (hn : r.Orders.length < 50) (hp : pl.length < 9223372036854775807) :
    (mconflict_Law r forum ask pl = some ([], 1) ∧ ¬ (FineQ r forum ask pl ∧ el pl 0 = forum)) ∨ (FineQ r forum ask pl ∧ el pl 0 = forum ∧ mconflict_Law r forum ask pl = some ((lawOf r forum ask pl).2, (lawOf r forum ask pl).1)) := by
  by_cases h : FineQ r forum ask pl ∧ el pl 0 = forum
  · exact .inr ⟨h.1, h.2, law_eq r forum ask pl hb hn h.1 h.2⟩
  · exact .inl ⟨law_bad r forum ask pl hp h, h⟩

theorem law_local (hs : mallongelaw19_sane = some true) (r : GRealm) (forum ask : Int) (pl : List Int) (order : Int) (other : GOrder) (w : GRealm.wf r) (wp : Wl I64 pl) (wo : GOrder.wf other) : mallongelaw19_ConflictLocal r forum ask pl order other = some true := by
  unfold mallongelaw19_ConflictLocal
  obtain ⟨b, e1, f⟩ := few_spec r
  rw [hs, e1]
  cases b with
  | false => rfl
  | true =>
    have f := f rfl
    obtain ⟨e, e2, h⟩ := check_spec r f w
    simp only [Option.bind_some, Bool.not_true, Bool.false_eq_true, if_false, e2, bne_iff_ne]
    by_cases h0 : e = 0
    · rw [if_neg (by simpa using h0)]
      have h := h h0
      by_cases hp : (pl.length : Int) > 10
      · simp [hp]
      by_cases ho1 : order < 0
      · simp [hp, ho1]
      by_cases ho2 : order ≥ (r.Orders.length : Int)
      · simp [hp, ho1, ho2]
      have hn := f.ord
      simp only [hp, ho1, ho2, decide_false, Bool.false_eq_true, if_false, List.nil_append, Nat.zero_add]
      have hlt : order.toNat < r.Orders.length := by omega
      rw [if_pos (by omega), if_pos ⟨by omega, hlt⟩, List.getElem?_eq_getElem hlt]
      simp only [Option.bind_some]
      rw [if_pos ⟨by omega, by simp; omega⟩, List.getElem?_eq_getElem (by simp; omega), List.getElem_set_self]
      simp only [Option.bind_some, List.set_set]
      generalize hT : GRealm.mk r.Currencies r.Cities r.Groups r.Firms (r.Orders.set order.toNat ⟨r.Orders[order.toNat].Name, other.Accepts, other.Choices, r.Orders[order.toNat].Rules⟩) r.Usances r.Rates r.Halts = T
      obtain ⟨b2, e3, f2⟩ := few_spec T
      rw [e3]
      cases b2 with
      | false => rfl
      | true =>
        have f2 := f2 rfl
        have wT : GRealm.wf T := by
          obtain ⟨w1, w2, w3, w4, w5, w6, w7, w8⟩ := w
          subst hT
          refine ⟨w1, w2, w3, w4, ⟨by simpa using w5.1, fun x hx => ?_⟩, w6, w7, w8⟩
          rcases List.mem_or_eq_of_mem_set hx with q | q
          · exact w5.2 x q
          · subst q
            have h5 := w5.2 _ (List.getElem_mem hlt)
            exact ⟨h5.1, wo.2.1, h5.2.2⟩
        obtain ⟨e', e4, h2⟩ := check_spec T f2 wT
        simp only [Option.bind_some, Bool.not_true, Bool.false_eq_true, if_false, e4]
        by_cases h0' : e' = 0
        · rw [if_neg (by simpa using h0')]
          have h2 := h2 h0'
          have hTl : T.Orders.length = r.Orders.length := by subst hT; simp
          have hTe : ∀ i, i ≠ order.toNat → el T.Orders i = el r.Orders i := by
            intro i hi
            subst hT
            simp only [el, List.getD_eq_getElem?_getD]
            rw [List.getElem?_set_ne (fun e => hi e.symm)]
          have hq : FineQ T forum ask pl ↔ FineQ r forum ask pl := by unfold FineQ; rw [hTl]
          have hpl : pl.length < 9223372036854775807 := by omega
          rcases law_cases r forum ask pl (byOk_of r f h) hn hpl with ⟨g1, g2⟩ | ⟨g1, g2, g3⟩
          · rw [g1, law_bad T forum ask pl hpl (by rw [hq]; exact g2)]
            have : ∀ u v : GOrder, mallongelaw19_ConflictLocal_l1 r forum ask pl order other true ([], 1) u v 0 = some (.inl ()) := fun u v => iter_end (by simp [mallongelaw19_ConflictLocal_l1_s])
            simp only [Option.bind_some, this, Sum.elim_inl]
            simp [sameInts_refl]
          · rw [g3]
            obtain ⟨p1, p2, p3⟩ := law_spec r forum ask pl (byOk_of r f h) hn g1
            generalize hlw : lawOf r forum ask pl = lw at p1 p2 p3 g3
            obtain ⟨ec, path⟩ := lw
            simp only at p1 p2 p3
            have hpl2 : path.length < 9223372036854775807 := by have := p1.len; omega
            have hloop : ∀ u v : GOrder, (mallongelaw19_ConflictLocal_l1 r forum ask pl order other true (path, ec) u v 0 = some (.inl ()) ∧ order ∉ path) ∨ mallongelaw19_ConflictLocal_l1 r forum ask pl order other true (path, ec) u v 0 = some (.inr ()) := by
              intro u v
              obtain ⟨x, hx, hq⟩ := iter_spec (step := fun w => mallongelaw19_ConflictLocal_l1_s r forum ask pl order other true (path, ec) u v w) (fun i => (i : Int)) path.length (fun i => el path i ≠ order) (fun x => x = .inl () → ∀ i, i < path.length → el path i ≠ order) (by
                intro i hi
                simp only [mallongelaw19_ConflictLocal_l1_s, lt_t hi, if_true, at_el _ _ hi, Option.bind_some, wrap_succ (show i < 9223372036854775807 by omega), beq_iff_eq]
                by_cases g : el path i = order
                · exact .inr ⟨.inr (), by rw [if_pos g], fun _ h => by cases h⟩
                · exact .inl ⟨by rw [if_neg g], g⟩) (by
                refine ⟨.inl (), ?_, fun h _ => h⟩
                simp only [mallongelaw19_ConflictLocal_l1_s, lt_f, if_false])
              cases x with
              | inr u => exact .inr hx
              | inl u => exact .inl ⟨hx, fun hm => by obtain ⟨i, hi, e⟩ := mem_el hm; exact hq rfl i hi e⟩
            simp only [Option.bind_some]
            rcases hloop r.Orders[order.toNat] ⟨r.Orders[order.toNat].Name, r.Orders[order.toNat].Accepts, other.Choices, r.Orders[order.toNat].Rules⟩ with ⟨l1, l2⟩ | l1
            · rw [l1]
              have hsame : lawOf T forum ask pl = (ec, path) := by
                rw [← hlw]
                unfold lawOf
                rw [hTl]
                refine lawR_local _ _ (by simp) fun x hx => ?_
                have hx' : x ∈ path := by
                  have : (lawR (leadOf r ask pl) (accOf r) r.Orders.length [forum]).2 = path := by
                    have := congrArg Prod.snd hlw
                    exact this
                  rw [this] at hx; exact hx
                have hxi := p1.inn x hx'
                have hxo : x.toNat ≠ order.toNat := fun e => by
                  have h1 := Int.toNat_of_nonneg hxi.1
                  have h2 := Int.toNat_of_nonneg (show 0 ≤ order from Int.not_lt.1 ho1)
                  have : x = order := by rw [← h1, e, h2]
                  rw [this] at hx'
                  exact l2 hx'
                exact ⟨by unfold leadOf; rw [hTe _ hxo], by unfold accOf; rw [hTe _ hxo]⟩
              rw [law_eq T forum ask pl (byOk_of T f2 h2) (by omega) (hq.2 g1) g2, hsame]
              simp [sameInts_refl path hpl2]
            · rw [l1]; rfl
        · rw [if_pos (by simpa using h0')]
    · rw [if_pos (by simpa using h0)]
end Go.Proofs.Ytdjfaepokfdihaa
