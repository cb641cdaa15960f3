/- More laws of layer 19, as plain laws: the path, simple choices, accepting orders. -/
import Derived.Test.YtdjfaepokfdihaaPLaw19
set_option linter.unusedVariables false
set_option linter.unusedSimpArgs false
namespace Go.Proofs.Ytdjfaepokfdihaa
open Go.RowKit Vm

theorem path_l1 (r : GRealm) (ask : Int) (pl : List Int) (i : Nat) (b : Bool) (r4 : List Int × Int) (r8 : Int × Bool) (hi : i < r4.1.length) (hl : r4.1.length < 9223372036854775807) : ∀ (m k : Nat) (b0 : Bool), k + m = i →
    ∃ b', mallongelaw19_ConflictPath_l1 r ask pl i b r4 r8 b0 k = some b' ∧ (b' = true → b0 = true ∨ ∃ j, j < i ∧ el r4.1 j = el r4.1 i)
  | 0, k, b0, hk => by
    obtain rfl : k = i := by omega
    exact ⟨b0, iter_end (by simp [mallongelaw19_ConflictPath_l1_s]), fun h => .inl h⟩
  | m + 1, k, b0, hk => by
    have hlt : k < i := by omega
    cases b0 with
    | true =>
      obtain ⟨b', h1, h2⟩ := path_l1 r ask pl i b r4 r8 hi hl m (k + 1) true (by omega)
      refine ⟨b', ?_, h2⟩
      rw [← h1]
      refine iter_some ?_
      simp only [mallongelaw19_ConflictPath_l1_s, lt_t hlt, if_true, wrap_succ (show k < 9223372036854775807 by omega)]
    | false =>
      obtain ⟨b', h1, h2⟩ := path_l1 r ask pl i b r4 r8 hi hl m (k + 1) (el r4.1 k == el r4.1 i) (by omega)
      refine ⟨b', ?_, fun h => ?_⟩
      · rw [← h1]
        refine iter_some ?_
        simp only [mallongelaw19_ConflictPath_l1_s, lt_t hlt, if_true, wrap_succ (show k < 9223372036854775807 by omega), at_el _ _ (show k < r4.1.length by omega), at_el _ _ hi, Option.bind_some, Bool.false_eq_true, if_false]
      · rcases h2 h with q | q
        · exact .inr ⟨k, hlt, by simpa using q⟩
        · exact .inr q
theorem path_j2 (r : GRealm) (ask : Int) (pl : List Int) (i : Nat) (b : Bool) (q : List Int) (e : Int) (r8 : Int × Bool) (hi : i < q.length) (hl : q.length < 9223372036854775807) (h1 : q.length = 1 → r8.1 = el q 0) :
    mallongelaw19_ConflictPath_j2 r ask pl i b (q, e) r8 = some (.inl ()) := by
  unfold mallongelaw19_ConflictPath_j2
  simp only [at_el _ _ hi, Option.bind_some]
  split
  · split
    · rename_i h2 h3
      have h3' : q.length = 1 := by simp at h3; omega
      obtain rfl : i = 0 := by omega
      rw [h1 h3']
      simp
    · rfl
  · rfl
theorem law_path (hs : mallongelaw19_sane = some true) (r : GRealm) (forum ask : Int) (pl : List Int) (w : GRealm.wf r) : mallongelaw19_ConflictPath r forum ask pl = some true := by
  unfold mallongelaw19_ConflictPath
  obtain ⟨b, e1, f⟩ := few_spec r
  rw [hs, e1]
  cases b with
  | false => rfl
  | true =>
    have f := f rfl
    obtain ⟨e, e2, h⟩ := check_spec r f w
    simp only [Option.bind_some, Bool.not_true, Bool.false_eq_true, if_false, e2, bne_iff_ne]
    by_cases h0 : e = 0
    · rw [if_neg (by simpa using h0)]
      have h := h h0
      by_cases hp : (pl.length : Int) > 10
      · simp [hp]
      have hn := f.ord
      simp only [hp, decide_false, Bool.false_eq_true, if_false]
      have hpl : pl.length < 9223372036854775807 := by omega
      rcases law_cases r forum ask pl (byOk_of r f h) hn hpl with ⟨g1, g2⟩ | ⟨g1, g2, g3⟩
      · rw [g1]; rfl
      · rw [g3]
        obtain ⟨p1, p2, p3, p4⟩ := law_spec r forum ask pl (byOk_of r f h) hn g1
        generalize hlw : lawOf r forum ask pl = lw at p1 p2 p4 g3
        obtain ⟨ec, path⟩ := lw
        simp only at p1 p2 p4
        have hlen := p1.len
        have hne : ec ≠ 1 := by rcases p2 with q | ⟨q, _⟩ <;> omega
        have hp0 : at? path 0 = some forum := by
          have := at_el path 0 hlen.1
          rw [p4] at this ⊢
          exact this
        have hloop : mallongelaw19_ConflictPath_l3 r ask pl true (path, ec) 0 = some (.inl ()) := by
          refine iter_all (step := fun w => mallongelaw19_ConflictPath_l3_s r ask pl true (path, ec) w) (fun i => (i : Int)) path.length _ ?_ ?_
          · intro i hi
            have hin := p1.inn _ (el_mem path i hi)
            have hfq : FineQ r (el path i) ask pl := ⟨hin.1, hin.2, g1.2.2⟩
            obtain ⟨b', l1, l2⟩ := path_l1 r ask pl i true (path, ec) (leadOf r ask pl (el path i)) hi (by simp only; omega) i 0 false (by omega)
            have l1 : mallongelaw19_ConflictPath_l1 r ask pl i true (path, ec) (leadOf r ask pl (el path i)) false 0 = some b' := l1
            have j2 := path_j2 r ask pl i true path ec (leadOf r ask pl (el path i)) hi (by omega) (fun h1 => by obtain rfl : i = 0 := (by omega); exact p1.one h1)
            simp only [mallongelaw19_ConflictPath_l3_s, lt_t hi, if_true, at_el _ _ hi, Option.bind_some, leads_eq r _ ask pl (byOk_of r f h) hfq, l1, j2, Sum.elim_inl, wrap_succ (show i < 9223372036854775807 by omega)]
            rw [wrap_id (show -9223372036854775808 ≤ (path.length : Int) - 1 by omega) (by omega), wrap_id (show -9223372036854775808 ≤ (path.length : Int) - 2 by omega) (by omega)]
            by_cases hl : i + 1 < path.length
            · have hb : b' = false := by
                cases b' with
                | false => rfl
                | true =>
                  rcases l2 rfl with q | ⟨j, j1, j2⟩
                  · cases q
                  · exact absurd j2 (p1.new i j hl j1)
              subst hb
              obtain ⟨c1, c2⟩ := p1.ch i hl
              rw [if_pos (by simp; omega), at_el _ _ hl]
              simp only [Bool.false_eq_true, if_false, Option.bind_some, c1, bne_self_eq_false]
              rw [c1] at c2
              rw [if_neg (by simpa using c2)]
              by_cases hl2 : i + 2 < path.length
              · rw [p1.whole i hl2]
                simp
              · rw [if_neg (by simp; omega)]
            · rw [if_neg (by simp; omega)]
          · simp only [mallongelaw19_ConflictPath_l3_s, lt_f, if_false]
        have g4 : ((ec == 1) = true) = False := by simp [hne]
        have g5 : (((path.length : Int) == 0) = true) = False := by simp only [beq_iff_eq, eq_iff_iff, iff_false]; omega
        have g6 : IntKind.wrap .i64 ((r.Orders.length : Int) + 1) = (r.Orders.length : Int) + 1 := wrap_id (by omega) (by omega)
        have g7 : (decide ((path.length : Int) > (r.Orders.length : Int) + 1) = true) = False := by simp; omega
        simp only [Option.bind_some, g4, g5, g6, g7, if_false, hp0, bne_self_eq_false, Bool.false_eq_true, hloop, Sum.elim_inl, ne_eq, not_true_eq_false]
    · rw [if_pos (by simpa using h0)]

/-! simple choices -/
theorem set_step {α : Type} [Inhabited α] (g : α → α) (l : List α) (i : Nat) (h : i < l.length) : ((l.take i).map g ++ l.drop i).set i (g (el l i)) = (l.take (i + 1)).map g ++ l.drop (i + 1) := by
  rw [List.set_append_right _ _ (by simp; omega)]
  have hl : ((l.take i).map g).length = i := by simp; omega
  rw [hl, Nat.sub_self, List.drop_eq_getElem_cons h, ← take_el g l i h, List.set_cons_zero, List.append_assoc]
  rfl
theorem set_at {α : Type} [Inhabited α] (g : α → α) (l : List α) (i : Nat) (h : i < l.length) : ((l.take i).map g ++ l.drop i)[i]? = some (el l i) := by
  have hl : ((l.take i).map g).length = i := by simp; omega
  rw [List.getElem?_append_right (by omega), hl, Nat.sub_self, List.getElem?_drop, Nat.add_zero, List.getElem?_eq_getElem h, el_lt l i h]
def simpleC (c : GChoice) : GChoice := ⟨c.Ask, c.By, false⟩
def simpleO (o : GOrder) : GOrder := ⟨o.Name, o.Accepts, o.Choices.map simpleC, o.Rules⟩
def acceptO (o : GOrder) : GOrder := ⟨o.Name, true, o.Choices, o.Rules⟩
theorem simple_l1 (r : GRealm) (forum ask : Int) (pl : List Int) (p4 : Int) (p5 p6 : List GOrder) (b : Bool) (o : GOrder) (h : o.Choices.length ≤ 40) : mallongelaw19_ConflictSimple_l1 r forum ask pl p4 p5 p6 b o 0 [] = some (o.Choices.map simpleC) := by
  have : mallongelaw19_ConflictSimple_l1 r forum ask pl p4 p5 p6 b o 0 [] = some ((o.Choices.take o.Choices.length).map simpleC) := by
    refine iter_all (step := fun (w : Int × List GChoice) => mallongelaw19_ConflictSimple_l1_s r forum ask pl p4 p5 p6 b o w.1 w.2) (fun i => ((i : Int), (o.Choices.take i).map simpleC)) o.Choices.length _ ?_ ?_
    · intro i hi
      have hm := take_el simpleC o.Choices i hi
      simp only [mallongelaw19_ConflictSimple_l1_s, lt_t hi, if_true, at_el _ _ hi, Option.bind_some, wrap_succ (show i < 9223372036854775807 by omega)]
      rw [if_pos (by simp; omega), ← hm]
      rfl
    · simp only [mallongelaw19_ConflictSimple_l1_s, lt_f, if_false]
  rw [this, List.take_length]
theorem simple_l2 (r : GRealm) (forum ask : Int) (pl : List Int) (b : Bool) (f : FewL r) : mallongelaw19_ConflictSimple_l2 r forum ask pl b 0 r.Orders [] = some (r.Orders.map acceptO, r.Orders.map simpleO) := by
  have hn := f.ord
  have : mallongelaw19_ConflictSimple_l2 r forum ask pl b 0 ((r.Orders.take 0).map acceptO ++ r.Orders.drop 0) [] = some ((r.Orders.take r.Orders.length).map acceptO ++ r.Orders.drop r.Orders.length, (r.Orders.take r.Orders.length).map simpleO) := by
    refine iter_all (step := fun (w : Int × List GOrder × List GOrder) => mallongelaw19_ConflictSimple_l2_s r forum ask pl b w.1 w.2.1 w.2.2) (fun i => ((i : Int), (r.Orders.take i).map acceptO ++ r.Orders.drop i, (r.Orders.take i).map simpleO)) r.Orders.length _ ?_ ?_
    · intro i hi
      have hm := take_el simpleO r.Orders i hi
      have hs := set_step acceptO r.Orders i hi
      have ha := set_at acceptO r.Orders i hi
      have hlen : ((r.Orders.take i).map acceptO ++ r.Orders.drop i).length = r.Orders.length := by simp; omega
      simp only [mallongelaw19_ConflictSimple_l2_s, lt_t hi, if_true, at_el _ _ hi, Option.bind_some, wrap_succ (show i < 9223372036854775807 by omega), simple_l1 r forum ask pl _ _ _ b (el r.Orders i) (f.orderL i hi).1, Int.toNat_natCast, hlen, ha]
      rw [if_pos (by simp; omega), if_pos ⟨by omega, hi⟩, ← hm, ← hs]
      rfl
    · simp only [mallongelaw19_ConflictSimple_l2_s, lt_f, if_false]
  simpa using this
theorem el_map {α β : Type} [Inhabited α] [Inhabited β] (f : α → β) (l : List α) (i : Nat) (h : i < l.length) : el (l.map f) i = f (el l i) := by
  rw [el_lt _ _ (by simpa using h), el_lt _ _ h, List.getElem_map]
theorem choice_simple (cs : List GChoice) (ask : Int) (pl : List Int) (o : Int) : choiceOf (cs.map simpleC) ask pl o = ((choiceOf cs ask pl o).1, false) := by
  unfold choiceOf
  rw [List.length_map]
  have key : ∀ (m k : Nat), k + m = cs.length → firstS (fun i => if (el (cs.map simpleC) i).Ask = ask ∧ (el (cs.map simpleC) i).By ≠ 0 then some (el pl (el (cs.map simpleC) i).By.toNat, (el (cs.map simpleC) i).Whole) else none) (o, false) k m =
      ((firstS (fun i => if (el cs i).Ask = ask ∧ (el cs i).By ≠ 0 then some (el pl (el cs i).By.toNat, (el cs i).Whole) else none) (o, false) k m).1, false) := by
    intro m
    induction m with
    | zero => intro k _; rfl
    | succ m ih =>
      intro k hk
      have e1 : (el (cs.map simpleC) k).Ask = (el cs k).Ask := by rw [el_map simpleC cs k (by omega)]; rfl
      have e2 : (el (cs.map simpleC) k).By = (el cs k).By := by rw [el_map simpleC cs k (by omega)]; rfl
      have e3 : (el (cs.map simpleC) k).Whole = false := by rw [el_map simpleC cs k (by omega)]; rfl
      simp only [firstS, e1, e2, e3]
      by_cases h : (el cs k).Ask = ask ∧ (el cs k).By ≠ 0
      · simp only [if_pos h]
      · simp only [if_neg h]; exact ih (k + 1) (by omega)
  exact key _ _ (by omega)
/-- if no choice is whole, the path ends at once -/
theorem lawR_simple {L : Int → Int × Bool} {acc : Int → Bool} (h : ∀ x, (L x).2 = false) (k : Nat) (x : Int) : (lawR L acc (k + 1) [x]).1 = 0 ∧ 1 ≤ (lawR L acc (k + 1) [x]).2.length ∧ (lawR L acc (k + 1) [x]).2.length ≤ 2 := by
  simp only [lawR]
  split
  · exact ⟨rfl, by simp, by simp⟩
  · rw [if_pos (h _)]
    exact ⟨rfl, by simp, by simp⟩
theorem law_simple (hs : mallongelaw19_sane = some true) (r : GRealm) (forum ask : Int) (pl : List Int) (w : GRealm.wf r) : mallongelaw19_ConflictSimple r forum ask pl = some true := by
  unfold mallongelaw19_ConflictSimple
  obtain ⟨b, e1, f⟩ := few_spec r
  rw [hs, e1]
  cases b with
  | false => rfl
  | true =>
    have f := f rfl
    obtain ⟨e, e2, h⟩ := check_spec r f w
    simp only [Option.bind_some, Bool.not_true, Bool.false_eq_true, if_false, e2, bne_iff_ne]
    by_cases h0 : e = 0
    · rw [if_neg (by simpa using h0)]
      have h := h h0
      by_cases hp : (pl.length : Int) > 10
      · simp [hp]
      have hn := f.ord
      simp only [hp, decide_false, Bool.false_eq_true, if_false, List.nil_append]
      have hpl : pl.length < 9223372036854775807 := by omega
      rw [if_pos (by omega), simple_l2 r forum ask pl true f]
      simp only [Option.bind_some]
      have hb := byOk_of r f h
      generalize hT : GRealm.mk r.Currencies r.Cities r.Groups r.Firms (r.Orders.map simpleO) r.Usances r.Rates r.Halts = T
      generalize hU : GRealm.mk r.Currencies r.Cities r.Groups r.Firms (r.Orders.map acceptO) r.Usances r.Rates r.Halts = U
      have hTl : T.Orders.length = r.Orders.length := by subst hT; simp
      have hUl : U.Orders.length = r.Orders.length := by subst hU; simp
      have hTe : ∀ i, i < r.Orders.length → el T.Orders i = simpleO (el r.Orders i) := fun i hi => by subst hT; exact el_map _ _ _ hi
      have hUe : ∀ i, i < r.Orders.length → el U.Orders i = acceptO (el r.Orders i) := fun i hi => by subst hU; exact el_map _ _ _ hi
      have hbT : ByOk T := fun i hi => by
        rw [hTe i (by omega)]
        obtain ⟨b1, b2⟩ := hb i (by omega)
        refine ⟨by simpa [simpleO] using b1, fun j hj => ?_⟩
        have hj' : j < (el r.Orders i).Choices.length := by simpa [simpleO] using hj
        have : el (simpleO (el r.Orders i)).Choices j = simpleC (el (el r.Orders i).Choices j) := el_map _ _ _ hj'
        rw [this]
        exact b2 j hj'
      have hbU : ByOk U := fun i hi => by
        rw [hUe i (by omega)]
        exact hb i (by omega)
      have hqT : FineQ T forum ask pl ↔ FineQ r forum ask pl := by unfold FineQ; rw [hTl]
      have hqU : FineQ U forum ask pl ↔ FineQ r forum ask pl := by unfold FineQ; rw [hUl]
      rcases law_cases r forum ask pl hb hn hpl with ⟨g1, g2⟩ | ⟨g1, g2, g3⟩
      · rw [g1, law_bad T forum ask pl hpl (by rw [hqT]; exact g2), law_bad U forum ask pl hpl (by rw [hqU]; exact g2)]
        rfl
      · rw [g3, law_eq T forum ask pl hbT (by omega) (hqT.2 g1) g2, law_eq U forum ask pl hbU (by omega) (hqU.2 g1) g2]
        obtain ⟨p1, p2, p3, p4⟩ := law_spec r forum ask pl hb hn g1
        obtain ⟨u1, u2, u3, u4⟩ := law_spec U forum ask pl hbU (by omega) (hqU.2 g1)
        have hne : (lawOf r forum ask pl).1 ≠ 1 := by rcases p2 with q | ⟨q, _⟩ <;> omega
        have hu0 : (lawOf U forum ask pl).1 = 0 := by
          rcases u2 with q | ⟨q, x, x1, x2, x3⟩
          · exact q
          · unfold accOf at x3
            rw [hUe _ (by omega)] at x3
            cases x3
        have hful := g1.2.1
        have hfu0 := g1.1
        obtain ⟨n, hnn⟩ : ∃ n, T.Orders.length = n + 1 := ⟨T.Orders.length - 1, by omega⟩
        -- no whole choice beyond the orders either: outside them there is no choice at all
        have hT2 : (lawOf T forum ask pl).1 = 0 ∧ 1 ≤ (lawOf T forum ask pl).2.length ∧ (lawOf T forum ask pl).2.length ≤ 2 := by
          unfold lawOf
          rw [hnn]
          refine lawR_simple (fun x => ?_) n forum
          unfold leadOf
          by_cases hx : x.toNat < r.Orders.length
          · rw [hTe _ hx]
            show (choiceOf ((el r.Orders x.toNat).Choices.map simpleC) ask pl x).2 = false
            rw [choice_simple]
          · have : el T.Orders x.toNat = default := by
              unfold el
              rw [List.getD_eq_getElem?_getD, List.getElem?_eq_none (by omega)]; rfl
            rw [this]; rfl
        have hul := u1.len
        have k1 : ((lawOf r forum ask pl).1 == 1) = false := by simp [hne]
        have k2 : ((lawOf T forum ask pl).1 == 0) = true := by simp [hT2.1]
        have k3 : ((lawOf U forum ask pl).1 == 0) = true := by simp [hu0]
        have k4 : decide (((lawOf T forum ask pl).2.length : Int) ≥ 1) = true := by simp; omega
        have k5 : decide (((lawOf T forum ask pl).2.length : Int) ≤ 2) = true := by simp; omega
        have k6 : decide (((lawOf U forum ask pl).2.length : Int) ≥ 1) = true := by simp; omega
        simp only [Option.bind_some, k1, k2, k3, k4, k5, k6, if_true, Bool.false_eq_true, if_false]
    · rw [if_pos (by simpa using h0)]
end Go.Proofs.Ytdjfaepokfdihaa
