/- Regions: in whichever order the model draws, the same comes out. -/
import Derived.Test.YtdjfaepokfdihaaVmReg
set_option linter.unusedVariables false
namespace Go.Proofs.Ytdjfaepokfdihaa
namespace Vm
open Go.RowKit

/-! ### steps over functions -/
abbrev Fn := (Nat → V) × (Nat → Option Blk)
abbrev Fp := List Nat × List Nat
def fpOf (o : SOper) (fr : Nat → V) (bl : Nat → Option Blk) (wr : List (Nat × Option Blk)) : Fp := ((if o.op.new = true then [o.site] else []) ++ ((o.op.peeks.flatMap fun x => (evo fr x).ids) ++ o.op.deeps.flatMap fun x => (evo fr x).dids bl), wr.map (·.1))
theorem peeks_opds {o : SOp} {x : Opd} (h : x ∈ o.peeks) : x ∈ o.opds := by
  cases o <;> simp only [SOp.peeks, SOp.opds, List.mem_cons, List.mem_singleton, List.not_mem_nil, or_false] at h ⊢ <;> first | (exact h.elim) | (exact .inl h) | (exact h) | skip
theorem deeps_opds {o : SOp} {x : Opd} (h : x ∈ o.deeps) : x ∈ o.opds := by
  cases o <;> simp only [SOp.deeps, SOp.opds, List.mem_cons, List.mem_singleton, List.not_mem_nil, or_false] at h ⊢ <;> first | (exact h.elim) | (exact .inr h) | (exact h) | skip
theorem fp_fr {o : SOper} {fr fr' : Nat → V} {bl : Nat → Option Blk} {wr : List (Nat × Option Blk)} (h : ∀ x ∈ o.op.opds, evo fr x = evo fr' x) : fpOf o fr bl wr = fpOf o fr' bl wr := by
  simp only [fpOf]
  rw [flatMap_congr' (l := o.op.peeks) fun z hz => by rw [h z (peeks_opds hz)], flatMap_congr' (l := o.op.deeps) fun z hz => by rw [h z (deeps_opds hz)]]
theorem fp_bl {o : SOper} {fr : Nat → V} {bl bl' : Nat → Option Blk} {wr : List (Nat × Option Blk)} (h : ∀ i ∈ (fpOf o fr bl wr).1, bl i = bl' i) : fpOf o fr bl wr = fpOf o fr bl' wr := by
  have h' : ∀ x ∈ o.op.deeps, ∀ id ∈ (evo fr x).dids bl, bl id = bl' id := fun x hx id hid => h id (List.mem_append.2 (.inr (List.mem_append.2 (.inr (List.mem_flatMap.2 ⟨x, hx, hid⟩)))))
  simp only [fpOf]
  rw [flatMap_congr' (l := o.op.deeps) fun z hz => dids_local fun id hid => h' z hz id (ids_dids id hid)]
/-- what it touches is all it sees of memory -/
theorem fp_aop {C : Nat → List D → Option D} {o : SOper} {fr fr' : Nat → V} {bl bl' : Nat → Option Blk} {v : V} {wr : List (Nat × Option Blk)} (h1 : ∀ x ∈ o.op.opds, evo fr x = evo fr' x) (h : ∀ i ∈ (fpOf o fr bl wr).1, bl i = bl' i) (h4 : ∀ p ∈ wr, bl p.1 = bl' p.1) (hs : aop C o.site (evo fr) bl o.op = some (v, wr)) : aop C o.site (evo fr') bl' o.op = some (v, wr) :=
  aop_localS o.op h1 (fun x hx id hid => h id (List.mem_append.2 (.inr (List.mem_append.2 (.inl (List.mem_flatMap.2 ⟨x, hx, hid⟩))))))
    (fun x hx id hid => h id (List.mem_append.2 (.inr (List.mem_append.2 (.inr (List.mem_flatMap.2 ⟨x, hx, hid⟩))))))
    (fun hn => h _ (List.mem_append.2 (.inl (by rw [if_pos hn]; simp)))) h4 hs
/-- a step, and what it touches -/
def stepF (C : Nat → List D → Option D) (o : SOper) (s : Fn) : Option (Fn × Fp) := match o.wants s.1 with
  | .run => match aop C o.site (evo s.1) s.2 o.op with
    | some (v, wr) => some ((updF s.1 o.dst v, updB s.2 wr), fpOf o s.1 s.2 wr)
    | none => none
  | .skip => some ((updF s.1 o.dst (.tup []), s.2), ([], []))
  | .bad => none
def SOper.looks (o : SOper) : List Nat := (o.op.opds.filterMap fun x => match x with | .t n => some n | .c _ => none) ++ (match o.guard with | some (t, _) => [t] | none => [])
/-- neither minds the other -/
def ind (x y : SOper) (p q : Fp) : Bool :=
  (match x.dst with | some d => !(y.looks.contains d) && y.dst != some d | none => true) && (match y.dst with | some d => !(x.looks.contains d) | none => true) &&
  p.2.all (fun i => !(q.1.contains i) && !(q.2.contains i)) && q.2.all (fun i => !(p.1.contains i))

theorem evo_upd {fr : Nat → V} {dst : Option Nat} {v : V} {x : Opd} {l : List Nat} (h : ∀ n, x = .t n → n ∈ l) (hd : ∀ d, dst = some d → d ∉ l) : evo (updF fr dst v) x = evo fr x := by
  cases x with
  | c u => rfl
  | t n =>
    simp only [evo, updF]
    rw [if_neg]
    intro e
    exact hd n e (h n rfl)
theorem looks_opds {o : SOper} {x : Opd} (hx : x ∈ o.op.opds) {n : Nat} (e : x = .t n) : n ∈ o.looks := by
  subst e
  exact List.mem_append.2 (.inl (List.mem_filterMap.2 ⟨_, hx, rfl⟩))
theorem wants_upd {o : SOper} {fr : Nat → V} {dst : Option Nat} {v : V} (hd : ∀ d, dst = some d → d ∉ o.looks) : o.wants (updF fr dst v) = o.wants fr := by
  unfold SOper.wants
  cases hg : o.guard with
  | none => rfl
  | some p =>
    obtain ⟨t, b⟩ := p
    have : updF fr dst v t = fr t := by
      simp only [updF]
      rw [if_neg]
      intro e
      exact hd t e (List.mem_append.2 (.inr (by rw [hg]; simp)))
    simp only [this]
theorem updB_out {bl : Nat → Option Blk} {wr : List (Nat × Option Blk)} {i : Nat} (h : i ∉ wr.map (·.1)) : updB bl wr i = bl i := by
  unfold updB
  rcases lk_mem wr (bl i) i with q | ⟨p, q1, q2, q3⟩
  · exact q
  · exact absurd (List.mem_map.2 ⟨p, q1, q2⟩) h
theorem updB_in {bl bl' : Nat → Option Blk} {wr : List (Nat × Option Blk)} {i : Nat} (h : i ∈ wr.map (·.1)) : updB bl wr i = updB bl' wr i := by
  induction wr with
  | nil => simp at h
  | cons p r ih =>
    obtain ⟨k, b⟩ := p
    simp only [updB, lk]
    by_cases e : i = k
    · rw [if_pos e, if_pos e]
    · rw [if_neg e, if_neg e]
      exact ih (by simpa [e] using h)
theorem updF_comm (fr : Nat → V) {d e : Option Nat} (u v : V) (h : ∀ x, d = some x → e ≠ some x) : updF (updF fr d u) e v = updF (updF fr e v) d u := by
  funext t
  simp only [updF]
  by_cases h1 : e = some t
  · have h2 : d ≠ some t := fun h2 => h t h2 h1
    rw [if_pos h1, if_neg h2, if_pos h1]
  · rw [if_neg h1, if_neg h1]
theorem updB_comm (bl : Nat → Option Blk) (wi wj : List (Nat × Option Blk)) (h : ∀ i ∈ wi.map (·.1), i ∉ wj.map (·.1)) : updB (updB bl wi) wj = updB (updB bl wj) wi := by
  funext i
  by_cases hi : i ∈ wi.map (·.1)
  · have hj := h i hi
    rw [updB_out hj]
    exact updB_in hi
  · rw [updB_out (bl := updB bl wj) hi]
    by_cases hj : i ∈ wj.map (·.1)
    · exact updB_in hj
    · rw [updB_out hj, updB_out hj, updB_out hi]

/-- two steps that don't mind each other change places -/
theorem swap {C : Nat → List D → Option D} {x y : SOper} {s s1 s2 : Fn} {p q : Fp} (h1 : stepF C x s = some (s1, p)) (h2 : stepF C y s1 = some (s2, q)) (hi : ind x y p q = true) :
    ∃ s1', stepF C y s = some (s1', q) ∧ stepF C x s1' = some (s2, p) := by
  obtain ⟨fr, bl⟩ := s
  simp only [ind, Bool.and_eq_true] at hi
  obtain ⟨⟨⟨i1, i2⟩, i3⟩, i4⟩ := hi
  have dx : ∀ d, x.dst = some d → d ∉ y.looks ∧ y.dst ≠ some d := by
    intro d e
    rw [e] at i1
    simp only [Bool.and_eq_true, Bool.not_eq_true', bne_iff_ne, ne_eq] at i1
    exact ⟨fun hm => by simp [hm] at i1, i1.2⟩
  have dy : ∀ d, y.dst = some d → d ∉ x.looks := by
    intro d e
    rw [e] at i2
    intro hm
    simp [hm] at i2
  -- the first step
  simp only [stepF] at h1
  -- by the guard of x
  cases hwx : x.wants fr with
  | bad => rw [hwx] at h1; cases h1
  | skip =>
    rw [hwx] at h1
    cases h1
    simp only [stepF, wants_upd (fun d e => (dx d e).1)] at h2 ⊢
    cases hwy : y.wants fr with
    | bad => rw [hwy] at h2; cases h2
    | skip =>
      rw [hwy] at h2
      cases h2
      refine ⟨_, rfl, ?_⟩
      simp only [wants_upd dy, hwx]
      rw [updF_comm fr (.tup []) (.tup []) (fun d e => (dx d e).2)]
    | run =>
      rw [hwy] at h2
      simp only at h2 ⊢
      have hev : ∀ z ∈ y.op.opds, evo (updF fr x.dst (.tup [])) z = evo fr z := fun z hz => evo_upd (l := y.looks) (fun n e => looks_opds hz e) (fun d e => (dx d e).1)
      have hloc : aop C y.site (evo (updF fr x.dst (.tup []))) bl y.op = aop C y.site (evo fr) bl y.op := aop_local y.op (fun _ _ _ => rfl) hev (fun _ _ _ _ => rfl) (fun _ _ _ _ => rfl) (fun _ => rfl)
      have hfp : ∀ wr, fpOf y (updF fr x.dst (.tup [])) bl wr = fpOf y fr bl wr := fun wr => fp_fr hev
      rw [hloc] at h2
      cases ha : aop C y.site (evo fr) bl y.op with
      | none => rw [ha] at h2; cases h2
      | some r =>
        obtain ⟨v, wr⟩ := r
        rw [ha] at h2
        simp only [hfp] at h2
        cases h2
        refine ⟨_, rfl, ?_⟩
        simp only [wants_upd dy, hwx]
        rw [updF_comm fr (.tup []) v (fun d e => (dx d e).2)]
  | run =>
    rw [hwx] at h1
    simp only at h1
    cases hax : aop C x.site (evo fr) bl x.op with
    | none => rw [hax] at h1; cases h1
    | some rx =>
      obtain ⟨vx, wx⟩ := rx
      rw [hax] at h1
      cases h1
      simp only [stepF, wants_upd (fun d e => (dx d e).1)] at h2 ⊢
      cases hwy : y.wants fr with
      | bad => rw [hwy] at h2; cases h2
      | skip =>
        rw [hwy] at h2
        cases h2
        refine ⟨_, rfl, ?_⟩
        simp only [wants_upd dy, hwx]
        have hev : ∀ z ∈ x.op.opds, evo (updF fr y.dst (.tup [])) z = evo fr z := fun z hz => evo_upd (l := x.looks) (fun n e => looks_opds hz e) dy
        have hloc : aop C x.site (evo (updF fr y.dst (.tup []))) bl x.op = aop C x.site (evo fr) bl x.op := aop_local x.op (fun _ _ _ => rfl) hev (fun _ _ _ _ => rfl) (fun _ _ _ _ => rfl) (fun _ => rfl)
        rw [hloc, hax]
        have hfp : fpOf x (updF fr y.dst (.tup [])) bl wx = fpOf x fr bl wx := fp_fr hev
        simp only [hfp]
        rw [updF_comm fr vx (.tup []) (fun d e => (dx d e).2)]
      | run =>
        rw [hwy] at h2
        simp only at h2 ⊢
        cases hay : aop C y.site (evo (updF fr x.dst vx)) (updB bl wx) y.op with
        | none => rw [hay] at h2; cases h2
        | some ry =>
          obtain ⟨vy, wy⟩ := ry
          rw [hay] at h2
          have hevy : ∀ z ∈ y.op.opds, evo (updF fr x.dst vx) z = evo fr z := fun z hz => evo_upd (l := y.looks) (fun n e => looks_opds hz e) (fun d e => (dx d e).1)
          have hevx : ∀ z ∈ x.op.opds, evo (updF fr y.dst vy) z = evo fr z := fun z hz => evo_upd (l := x.looks) (fun n e => looks_opds hz e) dy
          have hfpy : fpOf y (updF fr x.dst vx) (updB bl wx) wy = fpOf y fr (updB bl wx) wy := fp_fr hevy
          simp only [hfpy] at h2
          cases h2
          -- what y reads x does not write
          have j3 : ∀ i ∈ wx.map (·.1), i ∉ (fpOf y fr (updB bl wx) wy).1 ∧ i ∉ (fpOf y fr (updB bl wx) wy).2 := by
            intro i hi
            have := List.all_eq_true.1 i3 i hi
            simp only [Bool.and_eq_true, Bool.not_eq_true'] at this
            exact ⟨fun hm => by simp [hm] at this, fun hm => by simp [hm] at this⟩
          have j4 : ∀ i ∈ wy.map (·.1), i ∉ (fpOf x fr bl wx).1 := by
            intro i hi hm
            have := List.all_eq_true.1 i4 i hi
            simp [hm] at this
          have hby : ∀ i ∈ (fpOf y fr (updB bl wx) wy).1, updB bl wx i = bl i := fun i hi => updB_out fun hm => (j3 i hm).1 hi
          have hbx : ∀ i ∈ (fpOf x fr bl wx).1, bl i = updB bl wy i := fun i hi => (updB_out fun hm => j4 i hm hi).symm
          have hay : aop C y.site (evo fr) bl y.op = some (vy, wy) := fp_aop (wr := wy) hevy (by rw [hfpy]; exact hby) (fun p hp => updB_out fun hm => (j3 p.1 hm).2 (List.mem_map.2 ⟨p, hp, rfl⟩)) hay
          rw [hay]
          rw [fp_bl hby]
          refine ⟨_, rfl, ?_⟩
          simp only [wants_upd dy, hwx]
          have hlocx : aop C x.site (evo (updF fr y.dst vy)) (updB bl wy) x.op = some (vx, wx) := fp_aop (wr := wx) (fun z hz => (hevx z hz).symm) hbx (fun p hp => (updB_out fun hm => (j3 p.1 (List.mem_map.2 ⟨p, hp, rfl⟩)).2 hm).symm) hax
          rw [hlocx]
          have hfpx : fpOf x (updF fr y.dst vy) (updB bl wy) wx = fpOf x fr bl wx := (fp_fr hevx).trans (fp_bl hbx).symm
          simp only [hfpx]
          rw [updF_comm fr vx vy (fun d e => (dx d e).2), updB_comm bl wx wy fun i hi => (j3 i hi).2]

/-- the steps of a list of operations, each with what it touches -/
def Steps (C : Nat → List D → Option D) (l : List SOper) (fp : Nat → Fp) : List Nat → Fn → Fn → Prop
  | [], s, s' => s = s'
  | i :: L, s, s' => ∃ o s1, l[i]? = some o ∧ stepF C o s = some (s1, fp i) ∧ Steps C l fp L s1 s'
def Ind (l : List SOper) (fp : Nat → Fp) (j i : Nat) : Prop := ∀ x y, l[j]? = some x → l[i]? = some y → ind x y (fp j) (fp i) = true
theorem Steps.bring {C : Nat → List D → Option D} {l : List SOper} {fp : Nat → Fp} {i : Nat} {B : List Nat} : ∀ {A : List Nat} {s s' : Fn}, Steps C l fp (A ++ i :: B) s s' → (∀ j ∈ A, Ind l fp j i) → Steps C l fp (i :: (A ++ B)) s s'
  | [], s, s', h, _ => h
  | j :: A, s, s', ⟨o, s1, ho, hs, hr⟩, hi => by
    obtain ⟨oi, s2, ho2, hs2, hr2⟩ := Steps.bring hr fun k hk => hi k (by simp [hk])
    obtain ⟨s1', g1, g2⟩ := swap hs hs2 (hi j (by simp) o oi ho ho2)
    exact ⟨oi, s1', ho2, g1, o, s2, ho, g2, hr2⟩
end Vm
end Go.Proofs.Ytdjfaepokfdihaa
