/- Each operation of the small machine is the model's: all of them. -/
import Derived.Test.YtdjfaepokfdihaaVmOpsF
set_option linter.unusedVariables false
namespace Go.Proofs.Ytdjfaepokfdihaa
namespace Vm
open Go.RowKit

/-- the model's function answers r at what reads as ds -/
def Goes (P : Program) (f : Nat) : Prop := ∃ fn : Func, P.funcs[f]? = some fn ∧ fn.name ≠ "runtime.NumGoroutine" ∧ fn.body.isSome = true
/-- slices that are handed over -/
def newB (site : Nat) (es : List (Nat × Nat)) (rs : List (List (List D))) : Nat → Option Blk := updB (fun _ => none) (newBlks site 0 es rs)
/-- what a call hands over: data; or data, and slices that are its caller's own from then on -/
def ReadsF (base : Nat) (w : World) (h : Hp) (v : Value) : D → Prop
  | .own x es rs => ∀ site, ∃ hd0 : Nat → Value, R3 h hd0 (newB site es rs) v (thaw site x) ∧
      (∀ id b, newB site es rs id = some b → BR base w h hd0 (newB site es rs) id b) ∧
      (∀ i j bi bj g, newB site es rs i = some bi → newB site es rs j = some bj → numOf (hd0 i) = some g → numOf (hd0 j) = some g → i = j)
  | x => Reads h v x
theorem readsF_of {base : Nat} {w : World} {h : Hp} {v : Value} {x : D} (hx : ∀ y es rs, x ≠ .own y es rs) : ReadsF base w h v x ↔ Reads h v x := by
  cases x <;> first | exact Iff.rfl | exact absurd rfl (hx _ _ _)
theorem callRes_of {site : Nat} {bl : Nat → Option Blk} {fz : List (Nat × Option Blk)} {x : D} (hx : ∀ y es rs, x ≠ .own y es rs) : callRes site bl fz x = some (toV x, if flat x then [] else fz) := by
  cases x <;> first | rfl | exact absurd rfl (hx _ _ _)
theorem newBlks_rows (site : Nat) : ∀ (es : List (Nat × Nat)) (rs : List (List (List D))) (n : Nat), ∀ p ∈ newBlks site n es rs, ∃ e size rows, p.2 = some (.rows 0 e size rows)
  | [], rs, n, p, hp => by simp [newBlks] at hp
  | (e, size) :: es, [], n, p, hp => by simp [newBlks] at hp
  | (e, size) :: es, rows :: rs, n, p, hp => by
    simp only [newBlks, List.mem_cons] at hp
    rcases hp with rfl | hp
    · exact ⟨_, _, _, rfl⟩
    · exact newBlks_rows site es rs (n + 1) p hp
theorem freeB_of {bl : Nat → Option Blk} : ∀ {l : List (Nat × Option Blk)}, freeB bl l = true → ∀ p ∈ l, bl p.1 = none
  | [], _, p, hp => by simp at hp
  | (i, b) :: l, h, p, hp => by
    simp only [freeB] at h
    split at h
    · rename_i hi
      rcases List.mem_cons.1 hp with rfl | hp
      · exact hi
      · exact freeB_of h p hp
    · cases h
theorem updB_free {bl : Nat → Option Blk} {l : List (Nat × Option Blk)} (hf : ∀ p ∈ l, bl p.1 = none) (id : Nat) :
    (∃ p ∈ l, p.1 = id ∧ updB bl l id = p.2 ∧ updB (fun _ => none) l id = p.2) ∨ (updB bl l id = bl id ∧ updB (fun _ => none) l id = none) := by
  unfold updB
  have key : ∀ (l : List (Nat × Option Blk)), (∃ p ∈ l, p.1 = id ∧ lk l (bl id) id = p.2 ∧ lk l none id = p.2) ∨ (lk l (bl id) id = bl id ∧ lk l none id = none) := by
    intro l
    induction l with
    | nil => exact .inr ⟨rfl, rfl⟩
    | cons q l ih =>
      obtain ⟨i, b⟩ := q
      by_cases e : id = i
      · refine .inl ⟨(i, b), List.mem_cons_self .., e.symm, ?_, ?_⟩ <;> simp [lk, e]
      · simp only [lk, if_neg e]
        rcases ih with ⟨p, h1, h2⟩ | h
        · exact .inl ⟨p, List.mem_cons_of_mem _ h1, h2⟩
        · exact .inr h
  exact key l
theorem BR.base {b0 b1 : Nat} (hle : b0 ≤ b1) {w : World} {h : Hp} {hd : Nat → Value} {bl : Nat → Option Blk} {id : Nat} {b : Blk} (r : BR b1 w h hd bl id b) : BR b0 w h hd bl id b := by
  cases b with
  | box cs =>
    obtain ⟨g, arr, e, h1, h2, h3⟩ := r
    exact ⟨g, arr, e, h1, by omega, h3⟩
  | rows ver e size rows =>
    obtain ⟨h1, h2, ⟨xs, ⟨h3, h4⟩, h5⟩, h6⟩ := r
    refine ⟨h1, h2, ⟨xs, ⟨h3, ?_⟩, h5⟩, h6⟩
    rcases h4 with q | ⟨g, cap, cur, q1, q2, q3⟩
    · exact .inl q
    · exact .inr ⟨g, cap, cur, q1, by omega, q3⟩
  | froz ver rows => exact r
  | fbox cs => exact r
def Sound (P : Program) (f : Nat) (ds : List D) (x : D) : Prop := Goes P f ∧ ∀ (w : World) (h : Hp) (vs : Array Value), h.le (hw w) → vs.size = ds.length → (∀ (i : Nat) (d : D), ds[i]? = some d → Reads h (vs.getD i undef) d) →
  Calls P f vs w fun e w' => ∃ v h', e = .returned v ∧ ReadsF w.heap.size w' h' v x ∧ h.le h' ∧ h'.le (hw w') ∧ (∀ b, b < w.heap.size → h' b = h b) ∧ Below w.heap.size w w'

section
variable {P : Program} {nt : Nat} {w0 w w' : World} {h0 h h' : Hp} {fr : Nat → V} {bl : Nat → Option Blk} {a : Act} {hd : Nat → Value}
theorem wp_val {o : Oper} {K : Act → World → Prop} {Q : Exit → Act → World → Prop} {s : Sem Value} {cv : Value} (he : execOp a.eval o = (do pure (.value (← s)))) (hr : s.run P w = .ok cv w') (hk : K (a.put o.dst cv) w') : o.wp P a w K Q := by
  unfold Oper.wp
  rw [he]
  simp only [Sem.run_bind, hr, Result.andThen_ok, Sem.run_pure]
  exact hk
theorem wp_unit {o : Oper} {K : Act → World → Prop} {Q : Exit → Act → World → Prop} {s : Sem Unit} (he : execOp a.eval o = (do s; pure .skip)) (hr : s.run P w = .ok () w') (hk : K (a.put o.dst undef) w') : o.wp P a w K Q := by
  unfold Oper.wp
  rw [he]
  simp only [Sem.run_bind, hr, Result.andThen_ok, Sem.run_pure]
  exact hk

/-- behind a call -/
theorem Rl.call (r : Rl nt w0 h0 fr bl a w h hd) (dst : Option Nat) (hdst : ∀ d, dst = some d → d < nt) (cv : Value) (v : V) (hl : h.le h') (hle : h'.le (hw w')) (hb : ∀ b, b < w.heap.size → h' b = h b) (hbel : Below w.heap.size w w') (hv : R3 h' hd bl cv v) :
    Rl nt w0 h0 (updF fr dst v) bl (a.put dst cv) w' h' hd := by
  have hbase := r.below.size
  refine r.put dst cv v hdst hl hle (fun b hb' => hb b (by omega)) (hbel.mono hbase) (Kp.refl _ _) ?_ r.sep hv
  intro id b hbl
  refine (r.blk id b hbl).keep hl (Kp.refl _ _) rfl fun hlv g hg => ?_
  have := (r.blk id b hbl).num hlv hg
  exact ⟨hbel.block g this.2.1, fun q => by rw [hb g this.2.1]; exact q⟩
theorem Rl.drew (r : Rl nt w0 h0 fr bl a w h hd) : Rl nt w0 h0 fr bl a { w with drawn := w.drawn + 1 } h hd where
  tmps := r.tmps
  defers := r.defers
  below := r.below.drew
  hle := r.hle
  h0le := r.h0le
  hbase := r.hbase
  frame := r.frame
  blk := fun id b hb => (r.blk id b hb).keep (Hp.le.refl _) (Kp.refl _ _) rfl fun _ _ _ => ⟨rfl, fun q => q⟩
  sep := r.sep

theorem optX_ok (r : Rl nt w0 h0 fr bl a w h hd) {x : Option Operand} {y : Option Opd} (e : lowO x = some y) :
    (∀ z, y.map (evo fr) = some z → ∃ u, x.map a.eval = some u ∧ R3 h hd bl u z) ∧ (y.map (evo fr) = none → x.map a.eval = none) := by
  cases x with
  | none => simp only [lowO, Option.some.injEq] at e; subst e; exact ⟨fun z hz => (by cases hz), fun _ => rfl⟩
  | some x =>
    simp only [lowO, Option.map_eq_some_iff] at e
    obtain ⟨x', e1, rfl⟩ := e
    refine ⟨fun z hz => ?_, fun hz => (by cases hz)⟩
    simp only [Option.map_some, Option.some.injEq] at hz
    subst hz
    exact ⟨_, rfl, lowX_ok r.frame e1⟩

theorem binV0 {op : BinOp} {x y : V} {d : D} (e : binV 0 op x y = some d) : (∃ k m n, x = .d (.int k m) ∧ y = .d (.int k n) ∧ intBin op k m n = some d) ∨ ∃ m n, x = .d (.str m) ∧ y = .d (.str n) ∧ strBin op m n = some d := by
  unfold binV at e
  split at e
  · split at e
    · rename_i hk; subst hk; exact .inl ⟨_, _, _, rfl, rfl, e⟩
    · cases e
  · exact .inr ⟨_, _, rfl, rfl, e⟩
  all_goals (first | (cases e; done) | (simp_all; done))
theorem binV1 {op : BinOp} {x y : V} {d : D} (e : binV 1 op x y = some d) : ∃ m n, x = .d (.bool m) ∧ y = .d (.bool n) := by
  unfold binV at e
  split at e <;> first | (simp_all; done) | exact ⟨_, _, rfl, rfl⟩
/-- behind a call that hands slices over -/
theorem Rl.thaw (r : Rl nt w0 h0 fr bl a w h hd) (dst : Option Nat) (hdst : ∀ d, dst = some d → d < nt) (cv : Value) (v : V) (hl : h.le h') (hle : h'.le (hw w')) (hb : ∀ b, b < w.heap.size → h' b = h b) (hbel : Below w.heap.size w w')
    (l : List (Nat × Option Blk)) (hf : ∀ p ∈ l, bl p.1 = none) (hlv : ∀ p ∈ l, ∃ e size rows, p.2 = some (.rows 0 e size rows)) (hd0 : Nat → Value) (hv : R3 h' hd0 (updB (fun _ => none) l) cv v)
    (hB : ∀ id b, updB (fun _ => none) l id = some b → BR w.heap.size w' h' hd0 (updB (fun _ => none) l) id b)
    (hS : ∀ i j bi bj g, updB (fun _ => none) l i = some bi → updB (fun _ => none) l j = some bj → numOf (hd0 i) = some g → numOf (hd0 j) = some g → i = j) :
    ∃ hd', Rl nt w0 h0 (updF fr dst v) (updB bl l) (a.put dst cv) w' h' hd' := by
  have hbase := r.below.size
  have hcase := updB_free hf
  have hlive : ∀ id b, updB (fun _ => none) l id = some b → b.live = true := fun id b hb => by
    rcases hcase id with ⟨p, h1, h2, h3, h4⟩ | ⟨h3, h4⟩
    · obtain ⟨e, size, rows, h5⟩ := hlv p h1
      rw [h4, h5] at hb; cases hb; rfl
    · rw [h4] at hb; cases hb
  let hd' : Nat → Value := fun id => if (updB (fun _ => none) l id).isSome = true then hd0 id else hd id
  have hnew : ∀ id b, updB (fun _ => none) l id = some b → updB bl l id = some b ∧ hd' id = hd0 id := fun id b hb => by
    rcases hcase id with ⟨p, h1, h2, h3, h4⟩ | ⟨h3, h4⟩
    · exact ⟨by rw [h3, ← h4, hb], by simp [hd', hb]⟩
    · rw [h4] at hb; cases hb
  have hold : ∀ id b, bl id = some b → updB bl l id = some b ∧ hd' id = hd id := fun id b hb => by
    rcases hcase id with ⟨p, h1, h2, h3, h4⟩ | ⟨h3, h4⟩
    · have := hf p h1; rw [h2, hb] at this; cases this
    · exact ⟨by rw [h3, hb], by simp [hd', h4]⟩
  have hcases : ∀ id b, updB bl l id = some b → (updB (fun _ => none) l id = some b ∧ hd' id = hd0 id) ∨ (bl id = some b ∧ hd' id = hd id) := fun id b hb => by
    rcases hcase id with ⟨p, h1, h2, h3, h4⟩ | ⟨h3, h4⟩
    · have : updB (fun _ => none) l id = some b := by rw [h4, ← h3, hb]
      exact .inl ⟨this, (hnew id b this).2⟩
    · rw [h3] at hb; exact .inr ⟨hb, (hold id b hb).2⟩
  have hk : Kp hd hd' bl (updB bl l) := fun id b hb => by
    obtain ⟨q1, q2⟩ := hold id b hb
    refine ⟨b, q1, ?_⟩
    cases b <;> simp [Kept, q2]
  have hk0 : Kp hd0 hd' (updB (fun _ => none) l) (updB bl l) := fun id b hb => by
    obtain ⟨q1, q2⟩ := hnew id b hb
    refine ⟨b, q1, ?_⟩
    cases b <;> simp [Kept, q2]
  refine ⟨hd', r.put dst cv v hdst hl hle (fun b hb' => hb b (by omega)) (hbel.mono hbase) hk ?_ ?_ (hv.keep (Hp.le.refl _) hk0)⟩
  · intro id b hid
    rcases hcases id b hid with ⟨q1, q2⟩ | ⟨q1, q2⟩
    · exact ((hB id b q1).base hbase).keep (Hp.le.refl _) hk0 q2 fun _ g _ => ⟨rfl, fun q => q⟩
    · refine (r.blk id b q1).keep hl hk q2 fun hlv g hg => ?_
      have := (r.blk id b q1).num hlv hg
      exact ⟨hbel.block g this.2.1, fun q => by rw [hb g this.2.1]; exact q⟩
  · intro i j bi bj g hi hj li lj gi gj
    rcases hcases i bi hi with ⟨i1, i2⟩ | ⟨i1, i2⟩ <;> rcases hcases j bj hj with ⟨j1, j2⟩ | ⟨j1, j2⟩
    · exact hS i j bi bj g i1 j1 (i2 ▸ gi) (j2 ▸ gj)
    · have h1 := ((hB i bi i1).num (hlive i bi i1) (i2 ▸ gi)).1
      have h2 := ((r.blk j bj j1).num lj (j2 ▸ gj)).2.1
      omega
    · have h1 := ((hB j bj j1).num (hlive j bj j1) (j2 ▸ gj)).1
      have h2 := ((r.blk i bi i1).num li (i2 ▸ gi)).2.1
      omega
    · exact r.sep i j bi bj g i1 j1 li lj (i2 ▸ gi) (j2 ▸ gj)
theorem updB_app (bl : Nat → Option Blk) (a b : List (Nat × Option Blk)) : updB bl (a ++ b) = updB (updB bl b) a := by
  funext id
  unfold updB
  induction a with
  | nil => rfl
  | cons p a ih =>
    obtain ⟨i, x⟩ := p
    simp only [List.cons_append, lk]
    rw [ih]
/-- a call -/
theorem call_core (r : Rl nt w0 h0 fr bl a w h hd) {f : Nat} {ds : List D} {x : D} (hS : Sound P f ds x) {o : Oper} (hdst : ∀ d, o.dst = some d → d < nt) {vs : Array Value} (hexec : (execOp a.eval o).run P w = .ok (.enter f vs) w)
    {wr wr' : List (Nat × Option Blk)} {site : Nat} {v' : V} (hcr : callRes site bl wr x = some (v', wr')) (hok : FzOk bl wr) (hsz : vs.size = ds.length) (hrd : ∀ (i : Nat) (d : D), ds[i]? = some d → Reads (hFz w h hd wr) (vs.getD i undef) d) {K : Act → World → Prop} {Q : Exit → Act → World → Prop}
    (hK : ∀ a' w' h' hd', Rl nt w0 h0 (updF fr o.dst v') (updB bl wr') a' w' h' hd' → K a' w') : o.wp P a w K Q := by
  have hS := hS.2 w (hFz w h hd wr) vs (hFz_hw r _) hsz hrd
  unfold Oper.wp
  rw [hexec]
  simp only [Oper.upon]
  refine hS.mono ?_
  rintro e w' ⟨cv, h', rfl, g1, g2, g3, g4, g5⟩
  simp only
  by_cases hx : ∃ y es rs, x = .own y es rs
  · obtain ⟨y, es, rs, rfl⟩ := hx
    simp only [callRes] at hcr
    split at hcr
    · rename_i hfree
      cases hcr
      obtain ⟨hd0, q1, q2, q3⟩ := g1 site
      have hf : ∀ p ∈ newBlks site 0 es rs, updB bl wr p.1 = none := fun p hp => fz_site hok (freeB_of hfree p hp)
      obtain ⟨hd', r'⟩ := (r.freeze _ hok).thaw o.dst hdst cv _ g2 g3 g4 g5 _ hf (newBlks_rows site es rs 0) hd0 q1 q2 q3
      rw [← updB_app] at r'
      exact hK _ _ h' hd' r'
    · cases hcr
  · have hx : ∀ y es rs, x ≠ .own y es rs := fun y es rs e => hx ⟨y, es, rs, e⟩
    rw [callRes_of hx] at hcr
    rw [readsF_of hx] at g1
    cases hcr
    by_cases hfl : flat x = true
    · rw [if_pos hfl] at hK
      refine hK _ _ h hd (r.call o.dst hdst cv (toV x) (Hp.le.refl _) ?_ (fun _ _ => rfl) g5 (toV_ok (flat_reads g1 hfl h)))
      intro b ob hb
      exact (g5.block b (Array.getElem?_eq_some_iff.1 (r.hle b ob hb)).1).trans (r.hle b ob hb)
    · rw [if_neg hfl] at hK
      exact hK _ _ h' hd ((r.freeze _ hok).call o.dst hdst cv (toV x) g2 g3 g4 g5 (toV_ok g1))
theorem op_ok0 {C : Nat → List D → Option D} (hC : ∀ f ds x, C f ds = some x → Sound P f ds x) (r : Rl nt w0 h0 fr bl a w h hd) (o : Oper) {so : SOp} (hlow : lowOp0 P o = some so) (hdst : ∀ d, o.dst = some d → d < nt)
    {site : Nat} {v : V} {wr : List (Nat × Option Blk)} (ha : aop C site (evo fr) bl so = some (v, wr)) {K : Act → World → Prop} {Q : Exit → Act → World → Prop}
    (hK : ∀ a' w' h' hd', Rl nt w0 h0 (updF fr o.dst v) (updB bl wr) a' w' h' hd' → K a' w') : o.wp P a w K Q := by
  unfold lowOp0 at hlow
  split at hlow
  · -- move
    rename_i x hop
    rw [Option.map_eq_some_iff] at hlow
    obtain ⟨y, h1, rfl⟩ := hlow
    simp only [aop] at ha
    cases ha
    exact wp_val (s := pure (a.eval x)) (by simp [execOp, hop]) (by simp) (hK _ _ _ _ (r.put0 o.dst _ _ hdst (lowX_ok r.frame h1)))
  · rename_i x hop
    rw [Option.map_eq_some_iff] at hlow
    obtain ⟨y, h1, rfl⟩ := hlow
    simp only [aop] at ha
    cases ha
    exact wp_val (s := pure (a.eval x)) (by simp [execOp, hop]) (by simp) (hK _ _ _ _ (r.put0 o.dst _ _ hdst (lowX_ok r.frame h1)))
  · -- pick
    rename_i c x y hop
    split at hlow
    · rename_i c' x' y' h1 h2 h3
      cases hlow
      simp only [aop] at ha
      have hc := lowX_ok r.frame h1
      split at ha
      · rename_i hb
        cases ha
        rw [hb] at hc
        exact wp_val (s := pure (a.eval x)) (by simp [execOp, hop, inv_bool hc, asBool]) (by simp) (hK _ _ _ _ (r.put0 o.dst _ _ hdst (lowX_ok r.frame h2)))
      · rename_i hb
        cases ha
        rw [hb] at hc
        exact wp_val (s := pure (a.eval y)) (by simp [execOp, hop, inv_bool hc, asBool]) (by simp) (hK _ _ _ _ (r.put0 o.dst _ _ hdst (lowX_ok r.frame h3)))
      · cases ha
    · cases hlow
  · -- alloc
    rename_i e hop
    split at hlow
    · rename_i i hi
      split at hlow
      · rename_i z hz
        rw [Option.map_eq_some_iff] at hlow
        obtain ⟨zs, h1, rfl⟩ := hlow
        simp only [aop] at ha
        split at ha
        · rename_i hs
          cases ha
          obtain ⟨z1, z2⟩ := lowCells_ok (h := h) (hd := hd) (bl := bl) h1
          obtain ⟨cv, w', hd', q1, q2⟩ := newVar_run (P := P) r o.dst hdst site hs e z zs z1 z2
          refine wp_val (s := Instr.alloc e true (.tuple #[])) (by simp [execOp, hop]) (cv := cv) (w' := w') ?_ (hK _ _ _ _ q2)
          simpa [Instr.alloc, zeroValue, run_typeInfo hi, hz, Result.andThen] using q1
        · cases ha
      · cases hlow
    · cases hlow
  · -- box
    rename_i e x hop
    rw [Option.map_eq_some_iff] at hlow
    obtain ⟨y, h1, rfl⟩ := hlow
    simp only [aop] at ha
    split at ha
    · rename_i hs
      split at ha
      · rename_i hk
        cases ha
        obtain ⟨z1, z2⟩ := cells_ok (lowX_ok r.frame h1) hk
        obtain ⟨cv, w', hd', q1, q2⟩ := newVar_run (P := P) r o.dst hdst site hs e (a.eval x) _ z1 z2
        exact wp_val (s := Instr.box e (a.eval x)) (by simp [execOp, hop]) (by simpa [Instr.box] using q1) (hK _ _ _ _ q2)
      · cases ha
    · cases ha
  · -- build
    rename_i t parts hop
    split at hlow
    · rename_i i fs hi hu
      split at hlow
      · rename_i z hz
        split at hlow
        · rename_i zs ps h1 h2
          split at hlow
          · rename_i hf
            cases hlow
            simp only [aop] at ha
            rw [Option.map_eq_some_iff] at ha
            obtain ⟨cs, q1, q2⟩ := ha
            cases q2
            obtain ⟨cv, q3, q4⟩ := build_run r hi hu hz h1 hf h2 q1
            refine wp_val (s := Instr.build t (parts.map fun (i, x) => (i, a.eval x))) (by simp [execOp, hop]) (cv := cv) (w' := w) ?_ (hK _ _ _ _ (r.put0 o.dst _ _ hdst q4))
            have e : (parts.map fun x => (x.1, a.eval x.2)) = (parts.toList.map fun x => (x.1, a.eval x.2)).toArray := by obtain ⟨l⟩ := parts; simp
            exact (congrArg (fun q => (Instr.build t q).run P w) e).trans q3
          · cases hlow
        · cases hlow
      · cases hlow
    · cases hlow
  · -- buildSlice
    rename_i t len parts hop
    split at hlow
    · rename_i e ht
      split at hlow
      · rename_i i hi
        split at hlow
        · rename_i z hz
          split at hlow
          · rename_i zs h1
            split at hlow
            · rename_i row ps h2 h3
              split at hlow
              · rename_i hc
                obtain ⟨c1, c2, c3⟩ := hc
                cases hlow
                obtain ⟨cv, w', h', hd', q1, q2⟩ := buildSlice_run r ht hi hz h1 h2 c1 c2 c3 h3 o.dst hdst ha
                refine wp_val (s := Instr.buildSlice t len (parts.map fun (i, x) => (i, a.eval x))) (by simp [execOp, hop]) (cv := cv) (w' := w') ?_ (hK _ _ _ _ q2)
                have e : (parts.map fun x => (x.1, a.eval x.2)) = (parts.toList.map fun x => (x.1, a.eval x.2)).toArray := by obtain ⟨l⟩ := parts; simp
                exact (congrArg (fun q => (Instr.buildSlice t len q).run P w) e).trans q1
              · cases hlow
            · cases hlow
          · cases hlow
        · cases hlow
      · cases hlow
    · cases hlow
  · -- load
    rename_i t x hop
    split at hlow
    · rename_i b i x' h1 h2 h3
      cases hlow
      obtain ⟨rfl, cv, q1, q2⟩ := load_ok r h1 h2 (lowX_ok r.frame h3) ha
      exact wp_val (s := Instr.loadAt t (a.eval x)) (by simp [execOp, hop]) q1 (hK _ _ _ _ (r.put0 o.dst _ _ hdst q2))
    · cases hlow
  · -- store
    rename_i t x y hop
    split at hlow
    · rename_i i x' y' h1 h2 h3
      cases hlow
      have hx := lowX_ok r.frame h2
      have hy := lowX_ok r.frame h3
      simp only [aop] at ha
      split at ha
      · rename_i id off hev
        rw [hev] at hx
        split at ha
        · rename_i cs hb
          split at ha
          · rename_i hc
            obtain ⟨c1, c2, c3⟩ := hc
            cases ha
            obtain ⟨w', hd', q1, q2⟩ := storeBox_ok r h1 hx hy hb c1 c2 c3 o.dst hdst undef
            exact wp_unit (s := Instr.storeAt t (a.eval x) (a.eval y)) (by simp [execOp, hop]) q1 (hK _ _ _ _ q2)
          · cases ha
        · cases ha
      · rename_i id ver ii off hev
        rw [hev] at hx
        split at ha
        · rename_i w1 e sz rows hb
          split at ha
          · rename_i hv
            subst hv
            split at ha
            · rename_i row ds hrow hds
              split at ha
              · rename_i hc
                obtain ⟨c1, c2, hfz⟩ := hc
                cases ha
                obtain ⟨w', h', hd', q1, q2⟩ := storeRow_ok r h1 hx hy hb hrow hds hfz c1 c2 o.dst hdst undef
                exact wp_unit (s := Instr.storeAt t (a.eval x) (a.eval y)) (by simp [execOp, hop]) q1 (hK _ _ _ _ q2)
              · cases ha
            · cases ha
          · cases ha
        · cases ha
      · cases ha
    · cases hlow
  · -- nilCheck
    rename_i x hop
    rw [Option.map_eq_some_iff] at hlow
    obtain ⟨y, h1, rfl⟩ := hlow
    have hx := lowX_ok r.frame h1
    simp only [aop] at ha
    have key : ∀ (ad : Addr), a.eval x = .pointer (some ad) → R3 h hd bl (a.eval x) v → wr = [] → o.wp P a w K Q := by
      intro ad he hv hw
      subst hw
      exact wp_val (s := pure (a.eval x)) (by simp [execOp, hop, he]) (by simp) (hK _ _ _ _ (r.put0 o.dst _ _ hdst hv))
    split at ha
    · rename_i id off hev
      cases ha
      rw [hev] at hx
      obtain ⟨_, g, _, e⟩ := inv_ptr hx
      exact key _ e hx rfl
    · rename_i row off hev
      cases ha
      rw [hev] at hx
      have hx2 := hx
      obtain ⟨_, hr⟩ : D.atom _ = true ∧ Reads h (a.eval x) (.ptr row off) := hx
      generalize hq : a.eval x = q at hr
      cases hr with
      | ptr b o1 off n row cv hn hm hr ho => exact key _ hq hx2 rfl
    · rename_i id ver ii off hev
      rw [hev] at hx
      split at ha
      · rename_i v1 e s rows hb
        split at ha
        · rename_i hv
          cases ha
          subst hv
          have hx2 := hx
          obtain ⟨b, c, hb', hc, hle, h1', he⟩ : ∃ b c, bl id = some b ∧ b.ver? = some c ∧ ver ≤ c ∧ (a.eval x).oneCell' = true ∧ ∀ e size rows, b = .rows ver e size rows → ∃ g n c, hd id = .slice (some ⟨g, 0, none⟩) n c ∧ a.eval x = .pointer (some ⟨g, ii * size + off, none⟩) := hx
          rw [hb] at hb'
          cases hb'
          obtain ⟨g, n, c', _, e1⟩ := he e s rows rfl
          exact key _ e1 hx2 rfl
        · cases ha
      · cases ha
    · cases ha
  · -- binOp
    rename_i op t x y yt hop
    split at hlow
    · rename_i x' y' h1 h2
      have hx := lowX_ok r.frame h1
      have hy := lowX_ok r.frame h2
      have fin : ∀ (d : D), v = .d d → wr = [] → (∃ cv, ((do eqGuard op t x y (a.eval x) (a.eval y); binOp op t (a.eval x) (a.eval y)) : Sem Value).run P w = .ok cv w ∧ Reads h cv d ∧ d.atom = true) → o.wp P a w K Q := by
        rintro d rfl rfl ⟨cv, q1, q2, q3⟩
        exact wp_val (s := do eqGuard op t x y (a.eval x) (a.eval y); binOp op t (a.eval x) (a.eval y)) (by simp [execOp, hop]) q1 (hK _ _ _ _ (r.put0 o.dst _ _ hdst ⟨q3, q2⟩))
      have res : ∀ (z : Option D), Res.v z = some (v, wr) → ∃ d, z = some d ∧ v = .d d ∧ wr = [] := by
        intro z hz
        simp only [Res.v, Option.map_eq_some_iff] at hz
        obtain ⟨d, e1, e2⟩ := hz
        cases e2
        exact ⟨d, e1, rfl, rfl⟩
      have zero : ∀ (d : D), binV 0 op (evo fr x') (evo fr y') = some d → ∃ cv, ((do eqGuard op t x y (a.eval x) (a.eval y); binOp op t (a.eval x) (a.eval y)) : Sem Value).run P w = .ok cv w ∧ Reads h cv d ∧ d.atom = true := by
        intro d e
        generalize evo fr x' = xx at hx e
        generalize evo fr y' = yy at hy e
        rcases binV0 e with ⟨k, m, n, rfl, rfl, e'⟩ | ⟨m, n, rfl, rfl, e'⟩
        · rw [inv_int hx, inv_int hy]; exact intBin_run e'
        · rw [(inv_str hx).1, (inv_str hy).1]; exact strBin_run e'
      split at hlow <;> first | (cases hlow; done) | skip
      split at hlow
      · cases hlow
        simp only [aop] at ha
        obtain ⟨d, e1, e2, e3⟩ := res _ ha
        exact fin d e2 e3 (zero d e1)
      · cases hlow
        simp only [aop] at ha
        obtain ⟨d, e1, e2, e3⟩ := res _ ha
        exact fin d e2 e3 (zero d e1)
      · rename_i hu
        cases hlow
        simp only [aop] at ha
        obtain ⟨d, e1, e2, e3⟩ := res _ ha
        refine fin d e2 e3 ?_
        generalize evo fr x' = xx at hx e1
        generalize evo fr y' = yy at hy e1
        obtain ⟨m, n, rfl, rfl⟩ := binV1 e1
        rw [inv_bool hx, inv_bool hy]; exact boolBin_run hu e1
      · rename_i fs hu
        cases hq : flatK P 20 t with
        | none => simp only [hq] at hlow; (first | (cases hlow; done) | (split at hlow <;> cases hlow))
        | some ks =>
          simp only [hq] at hlow
          cases op <;> dsimp only at hlow <;> first | (cases hlow; done) | skip
          · split at hlow
            · rename_i hg
              cases hlow
              simp only [aop] at ha
              obtain ⟨d, e1, e2, e3⟩ := res _ ha
              exact fin d e2 e3 (eqS_run (neg := false) hq hu hg hx hy e1 x y)
            · cases hlow
          · split at hlow
            · rename_i hg
              cases hlow
              simp only [aop] at ha
              obtain ⟨d, e1, e2, e3⟩ := res _ ha
              exact fin d e2 e3 (eqS_run (neg := true) hq hu hg hx hy e1 x y)
            · cases hlow
      · cases hlow
    · cases hlow
  · -- unOp
    rename_i op t x hop
    rw [Option.map_eq_some_iff] at hlow
    obtain ⟨y, h1, rfl⟩ := hlow
    simp only [aop, Res.v, Option.map_eq_some_iff] at ha
    obtain ⟨d, e1, e2⟩ := ha
    cases e2
    obtain ⟨cv, q1, q2, q3⟩ := un_run (P := P) (w := w) (lowX_ok r.frame h1) e1
    exact wp_val (s := Op.unary op (a.eval x)) (by simp [execOp, hop]) q1 (hK _ _ _ _ (r.put0 o.dst _ _ hdst ⟨q3, q2⟩))
  · -- convert
    rename_i s d x hop
    split at hlow
    · rename_i k1 k x' h1 h2 h3
      cases hlow
      have hx := lowX_ok r.frame h3
      simp only [aop] at ha
      split at ha
      · rename_i k2 n hev
        cases ha
        rw [hev] at hx
        refine wp_val (s := convert s d (a.eval x)) (by simp [execOp, hop]) (cv := .int k (k.wrap n)) (w' := w) ?_ (hK _ _ _ _ (r.put0 o.dst _ _ hdst ⟨rfl, .int _ _⟩))
        rw [inv_int hx]
        simp [convert, run_underlying h1, run_underlying h2, Conv.intToInt]
      · cases ha
    · rename_i e x' h1 h2 h3
      split at hlow
      · rename_i he
        cases hlow
        have hx := lowX_ok r.frame h3
        simp only [aop] at ha
        split at ha
        · rename_i str hev
          cases ha
          rw [hev] at hx
          obtain ⟨cv, w', h', q1, q2, q3, q4, q5, q6⟩ := bytes_run r h1 h2 he str
          exact wp_val (s := convert s d (a.eval x)) (by simp [execOp, hop]) (cv := cv) (w' := w') (by rw [(inv_str hx).1]; exact q1) (hK _ _ _ _ (r.call o.dst hdst cv _ q2 q3 q4 q5 ⟨rfl, q6⟩))
        · cases ha
      · cases hlow
    · cases hlow
  · -- slice
    rename_i t x lo hi mx hop
    split at hlow
    · cases hlow
    · split at hlow
      · rename_i e x' lo' hi' ht hx hlo hhi
        rw [Option.map_eq_some_iff] at hlow
        obtain ⟨i, hi1, rfl⟩ := hlow
        simp only [aop] at ha
        obtain ⟨l1, l2⟩ := optX_ok r hlo
        obtain ⟨m1, m2⟩ := optX_ok r hhi
        obtain ⟨cv, h', hd', q1, q2⟩ := slice_run r ht hi1 (lowX_ok r.frame hx) l1 m1 l2 m2 o.dst hdst ha
        exact wp_val (s := Instr.sliceAt t (a.eval x) (lo.map a.eval) (hi.map a.eval) none) (by simp [execOp, hop]) q1 (hK _ _ _ _ q2)
      · rename_i x' lo' hi' ht hx hlo hhi
        cases hlow
        simp only [aop] at ha
        obtain ⟨l1, l2⟩ := optX_ok r hlo
        obtain ⟨m1, m2⟩ := optX_ok r hhi
        obtain ⟨rfl, cv, q1, q2⟩ := strSlice_run (P := P) (w := w) ht (lowX_ok r.frame hx) l1 m1 l2 m2 ha
        exact wp_val (s := Instr.sliceAt t (a.eval x) (lo.map a.eval) (hi.map a.eval) none) (by simp [execOp, hop]) q1 (hK _ _ _ _ (r.put0 o.dst _ _ hdst q2))
      · cases hlow
  · -- fieldAddr
    rename_i s x f hop
    split at hlow
    · rename_i fs x' hs hx
      split at hlow
      · rename_i fd hf
        split at hlow
        · rename_i i hi
          split at hlow
          · cases hlow
          · rename_i hz
            cases hlow
            obtain ⟨rfl, cv, q1, q2⟩ := field_run r hs hf hi hz (lowX_ok r.frame hx) ha
            exact wp_val (s := Instr.fieldAt s (a.eval x) f) (by simp [execOp, hop]) q1 (hK _ _ _ _ (r.put0 o.dst _ _ hdst q2))
        · cases hlow
      · cases hlow
    · cases hlow
  · -- field
    rename_i s x f hop
    split at hlow
    · rename_i fs x' hs hx
      split at hlow
      · rename_i fd hf
        split at hlow
        · rename_i i b hi hb
          cases hlow
          have hxr := lowX_ok r.frame hx
          simp only [aop] at ha
          split at ha
          · rename_i cs hev
            rw [hev] at hxr
            obtain ⟨arr, he, h1, h2⟩ := inv_agg hxr
            obtain ⟨rfl, cv, q1, q2⟩ := part_run (P := P) (w := w) hb hi h1 h2 ha
            refine wp_val (s := Instr.field s (a.eval x) f) (by simp [execOp, hop]) (cv := cv) (w' := w) ?_ (hK _ _ _ _ (r.put0 o.dst _ _ hdst q2))
            rw [he]
            simp [Instr.field, run_underlying hs, hf, asAgg, q1]
          · cases ha
        · cases hlow
      · cases hlow
    · cases hlow
  · -- indexAddr
    rename_i t x j hop
    split at hlow
    · rename_i e x' j' ht hx hj
      rw [Option.map_eq_some_iff] at hlow
      obtain ⟨i, hi, rfl⟩ := hlow
      obtain ⟨rfl, cv, q1, q2⟩ := index_run ht hi r (lowX_ok r.frame hx) (lowX_ok r.frame hj) ha
      exact wp_val (s := Instr.indexAt t (a.eval x) (a.eval j)) (by simp [execOp, hop]) q1 (hK _ _ _ _ (r.put0 o.dst _ _ hdst q2))
    · cases hlow
  · -- index
    rename_i t x j hop
    split at hlow
    · rename_i x' j' ht hx hj
      cases hlow
      obtain ⟨rfl, cv, q1, q2⟩ := indexS_run (P := P) (w := w) ht (lowX_ok r.frame hx) (lowX_ok r.frame hj) ha
      exact wp_val (s := Instr.index t (a.eval x) (a.eval j)) (by simp [execOp, hop]) q1 (hK _ _ _ _ (r.put0 o.dst _ _ hdst q2))
    · cases hlow
  · -- extract
    rename_i x n hop
    rw [Option.map_eq_some_iff] at hlow
    obtain ⟨y, h1, rfl⟩ := hlow
    obtain ⟨rfl, cv, q1, q2⟩ := extract_run (P := P) (w := w) (lowX_ok r.frame h1) ha
    exact wp_val (s := Instr.extract (a.eval x) n) (by simp [execOp, hop]) q1 (hK _ _ _ _ (r.put0 o.dst _ _ hdst q2))
  · -- makeSlice
    rename_i t l c hop
    split at hlow
    · rename_i e l' c' ht hl hc
      split at hlow
      · rename_i i hi
        split at hlow
        · rename_i z hz
          split at hlow
          · rename_i zs h1
            split at hlow
            · rename_i row h2
              split at hlow
              · rename_i hcnd
                cases hlow
                obtain ⟨cv, w', hd', q1, q2⟩ := make_run r ht hi hz hcnd.1 hcnd.2 h1 h2 (lowX_ok r.frame hl) (lowX_ok r.frame hc) o.dst hdst ha
                exact wp_val (s := Instr.makeSlice t (a.eval l) (a.eval c)) (by simp [execOp, hop]) q1 (hK _ _ _ _ q2)
              · cases hlow
            · cases hlow
          · cases hlow
        · cases hlow
      · cases hlow
    · cases hlow
  · -- makeFunc
    rename_i fn first captured hop
    split at hlow
    · rename_i f
      split at hlow
      · rename_i hfirst
        rw [Option.map_eq_some_iff] at hlow
        obtain ⟨caps, h1, rfl⟩ := hlow
        simp only [aop] at ha
        split at ha
        · cases ha
        · rename_i ds hds
          cases ha
          obtain ⟨m1, m2⟩ := mapM'_some h1
          obtain ⟨n1, n2⟩ := mapM'_some hds
          have hok : FzOk bl (caps.flatMap fun x => fz1 bl (evo fr x)) := FzOk.flatMap1 caps fun x => evo fr x
          have hfe : first = #[] := by simpa using hfirst
          subst hfe
          refine wp_val (s := Instr.makeFunc (.func f) #[] (captured.map a.eval)) (cv := .func (.func f) #[] (captured.map a.eval)) (w' := w) (by simp [execOp, hop]) (by simp [Instr.makeFunc]) (hK _ _ _ _ ((r.freeze _ hok).put0 o.dst _ _ hdst ⟨rfl, .fn f (captured.map a.eval) ds (by simp at m1 ⊢; omega) ?_⟩))
          intro j d hj
          obtain ⟨y, y1, y2⟩ := mapM'_back hds hj
          obtain ⟨z, z1, z2⟩ := mapM'_back h1 y1
          have z1' : captured[j]? = some z := by simpa using z1
          have e3 : (captured.map a.eval).getD j undef = a.eval z := by simp [z1']
          rw [e3]
          have h3 := lowX_ok r.frame z2
          refine (toD1_ok r _ (x := evo fr y) ?_ y2 fun p hp => List.mem_flatMap.2 ⟨y, List.mem_of_getElem? y1, hp⟩).1
          generalize evo fr y = yy at h3 y2
          cases yy with
          | tup vs => cases y2
          | agg cs => cases y2
          | _ => exact h3
      · cases hlow
    · cases hlow
  · -- calls
    rename_i c hop
    have hargs : ∀ {l : List Opd}, mapM' lowX c.args.toList = some l → (c.args.map a.eval).size = l.length ∧ ∀ (j : Nat) (y : Opd), l[j]? = some y → R3 h hd bl ((c.args.map a.eval).getD j undef) (evo fr y) := by
      intro l e
      obtain ⟨m1, m2⟩ := mapM'_some e
      refine ⟨by simpa using m1, fun j y hy => ?_⟩
      obtain ⟨x, x1, x2⟩ := mapM'_back e hy
      have x1' : c.args[j]? = some x := by simpa using x1
      have : (c.args.map a.eval).getD j undef = a.eval x := by simp [x1']
      rw [this]
      exact lowX_ok r.frame x2
    split at hlow
    · -- a function
      rename_i f hcal
      split at hlow
      · rename_i fn args hfn hl
        split at hlow
        · rename_i hcnd
          obtain ⟨c1, c2⟩ := hcnd
          cases hlow
          simp only [aop] at ha
          split at ha
          · cases ha
          · rename_i ds hds
            split at ha
            · cases ha
            · rename_i x hCx
              obtain ⟨a1, a2⟩ := hargs hl
              obtain ⟨m1, m2⟩ := mapM'_some hds
              have hexec : (execOp a.eval o).run P w = .ok (.enter f (c.args.map a.eval)) w := by
                obtain ⟨bd, hbd⟩ := Option.isSome_iff_exists.1 c2
                have c1' : (fn.name == "runtime.NumGoroutine") = false := by simpa using c1
                have e2 : c.args.map a.eval ++ #[] = c.args.map a.eval := by simp
                simp [execOp, hop, resolve, hcal, Act.eval, Deferred.ofValue, invoke, callFunc, hfn, c1, hbd]
              refine call_core r (hC f ds x hCx) hdst hexec ha (FzOk.flatMap args fun x => evo fr x) (by omega) (by
                intro i d hi
                obtain ⟨y, y1, y2⟩ := mapM'_back hds hi
                have h3 := a2 i y y1
                refine toD2_ok r _ ?_ y2 fun p hp => List.mem_flatMap.2 ⟨y, List.mem_of_getElem? y1, hp⟩
                generalize evo fr y = yy at h3 y2
                cases yy with
                | tup vs => cases y2
                | _ => exact h3) hK
        · cases hlow
      · cases hlow
    · -- a function value
      rename_i g hnf hcal
      split at hlow
      · rename_i x' args hx hl
        cases hlow
        simp only [aop] at ha
        split at ha
        · rename_i f caps hev
          split at ha
          · cases ha
          · rename_i ds hds
            split at ha
            · cases ha
            · rename_i x hCx
              obtain ⟨a1, a2⟩ := hargs hl
              obtain ⟨m1, m2⟩ := mapM'_some hds
              have hg := lowX_ok r.frame hx
              rw [hev] at hg
              obtain ⟨_, hg⟩ : D.atom _ = true ∧ Reads h (a.eval g) (.fn f caps) := hg
              obtain ⟨arr, hge, hgl, hgr⟩ : ∃ arr : Array Value, a.eval g = .func (.func f) #[] arr ∧ arr.size = caps.length ∧ ∀ (j : Nat) (x : D), caps[j]? = some x → Reads h (arr.getD j undef) x := by
                generalize a.eval g = q at hg
                cases hg with
                | fn f arr cs hl hr => exact ⟨arr, rfl, hl, hr⟩
              obtain ⟨⟨fn, g1, g2, g3⟩, _⟩ := hC f _ x hCx
              have hexec : (execOp a.eval o).run P w = .ok (.enter f (c.args.map a.eval ++ arr)) w := by
                obtain ⟨bd, hbd⟩ := Option.isSome_iff_exists.1 g3
                have g2' : (fn.name == "runtime.NumGoroutine") = false := by simpa using g2
                simp [execOp, hop, resolve, hcal, hge, Deferred.ofValue, invoke, callFunc, g1, g2, hbd]
              refine call_core r (hC f _ x hCx) hdst hexec ha (FzOk.flatMap args fun x => evo fr x) (by simp only [Array.size_append, List.length_append]; omega) (by
                intro i d hi
                rw [List.getElem?_append] at hi
                by_cases hlt : i < ds.length
                · rw [if_pos hlt] at hi
                  obtain ⟨y, y1, y2⟩ := mapM'_back hds hi
                  have h3 := a2 i y y1
                  have e3 : (c.args.map a.eval ++ arr).getD i undef = (c.args.map a.eval).getD i undef := by
                    simp only [Array.getD_eq_getD_getElem?]
                    rw [Array.getElem?_append_left (by omega)]
                  rw [e3]
                  refine toD2_ok r _ ?_ y2 fun p hp => List.mem_flatMap.2 ⟨y, List.mem_of_getElem? y1, hp⟩
                  generalize evo fr y = yy at h3 y2
                  cases yy with
                  | tup vs => cases y2
                  | _ => exact h3
                · rw [if_neg hlt] at hi
                  have e3 : (c.args.map a.eval ++ arr).getD i undef = arr.getD (i - ds.length) undef := by
                    simp only [Array.getD_eq_getD_getElem?]
                    rw [Array.getElem?_append_right (by omega)]
                    congr 3
                    omega
                  rw [e3]
                  exact (hgr _ d hi).mono (hFz_le r _)) hK
        · cases ha
      · cases hlow
    · -- len
      rename_i hcal
      split at hlow
      · rename_i x t hca hct
        have hca : c.args = #[x] := by rw [← Array.toArray_toList (xs := c.args), hca]
        have hct : c.argTypes = #[t] := by rw [← Array.toArray_toList (xs := c.argTypes), hct]
        split at hlow
        · rename_i x' ht hx
          cases hlow
          obtain ⟨rfl, cv, q1, q2⟩ := lenS_run (P := P) (w := w) (ty := o.type) ht (lowX_ok r.frame hx) ha
          exact wp_val (s := Builtin.len_ #[t] o.type #[a.eval x]) (by simp [execOp, hop, resolve, hcal, hca, hct, invoke, builtin]) q1 (hK _ _ _ _ (r.put0 o.dst _ _ hdst q2))
        · rename_i e x' ht hx
          cases hlow
          obtain ⟨rfl, cv, q1, q2⟩ := len_run (P := P) (ty := o.type) r ht (lowX_ok r.frame hx) ha
          exact wp_val (s := Builtin.len_ #[t] o.type #[a.eval x]) (by simp [execOp, hop, resolve, hcal, hca, hct, invoke, builtin]) q1 (hK _ _ _ _ (r.put0 o.dst _ _ hdst q2))
        · cases hlow
      · cases hlow
    · -- append
      rename_i hcal
      split at hlow
      · rename_i x y t u hca hct
        have hca : c.args = #[x, y] := by rw [← Array.toArray_toList (xs := c.args), hca]
        have hct : c.argTypes = #[t, u] := by rw [← Array.toArray_toList (xs := c.argTypes), hct]
        split at hlow
        · rename_i htu
          subst htu
          split at hlow
          · rename_i e x' y' ht hx hy
            split at hlow
            · rename_i i hi
              split at hlow
              · rename_i z hz
                split at hlow
                · rename_i hcnd
                  obtain ⟨c1, c2, c3⟩ := hcnd
                  cases hlow
                  obtain ⟨cv, w', hd', q1, q2⟩ := append_run (ty := o.type) r ht hi hz c1 c2 c3 (lowX_ok r.frame hx) (lowX_ok r.frame hy) o.dst hdst ha
                  exact wp_val (s := Builtin.append_ #[t, t] o.type #[a.eval x, a.eval y]) (by simp [execOp, hop, resolve, hcal, hca, hct, invoke, builtin]) q1 (hK _ _ _ _ q2)
                · cases hlow
              · cases hlow
            · cases hlow
          · cases hlow
        · cases hlow
      · cases hlow
    · -- max
      rename_i hcal
      rw [Option.map_eq_some_iff] at hlow
      obtain ⟨l, h1, rfl⟩ := hlow
      simp only [aop, Res.v, Option.map_eq_some_iff] at ha
      obtain ⟨d, e1, e2⟩ := ha
      cases e2
      obtain ⟨a1, a2⟩ := hargs h1
      obtain ⟨cv, q1, q2, q3⟩ := max_run (P := P) (w := w) (h := h) (hd := hd) (bl := bl) (c.args.map a.eval).toList (l.map (evo fr)) d (by simpa using a1.symm) (fun j y hy => by
        rw [List.getElem?_map, Option.map_eq_some_iff] at hy
        obtain ⟨z, z1, rfl⟩ := hy
        simpa using a2 j z z1) e1 c.argTypes o.type
      refine wp_val (s := Builtin.max_ c.argTypes o.type (c.args.map a.eval)) (by simp [execOp, hop, resolve, hcal, invoke, builtin]) (cv := cv) (w' := w) ?_ (hK _ _ _ _ (r.put0 o.dst _ _ hdst ⟨q3, q2⟩))
      rw [Array.toArray_toList] at q1
      exact q1
    · -- min
      rename_i hcal
      rw [Option.map_eq_some_iff] at hlow
      obtain ⟨l, h1, rfl⟩ := hlow
      simp only [aop, Res.v, Option.map_eq_some_iff] at ha
      obtain ⟨d, e1, e2⟩ := ha
      cases e2
      obtain ⟨a1, a2⟩ := hargs h1
      obtain ⟨cv, q1, q2, q3⟩ := min_run (P := P) (w := w) (h := h) (hd := hd) (bl := bl) (c.args.map a.eval).toList (l.map (evo fr)) d (by simpa using a1.symm) (fun j y hy => by
        rw [List.getElem?_map, Option.map_eq_some_iff] at hy
        obtain ⟨z, z1, rfl⟩ := hy
        simpa using a2 j z z1) e1 c.argTypes o.type
      refine wp_val (s := Builtin.min_ c.argTypes o.type (c.args.map a.eval)) (by simp [execOp, hop, resolve, hcal, invoke, builtin]) (cv := cv) (w' := w) ?_ (hK _ _ _ _ (r.put0 o.dst _ _ hdst ⟨q3, q2⟩))
      rw [Array.toArray_toList] at q1
      exact q1
    · cases hlow
  · cases hlow
theorem op_ok {C : Nat → List D → Option D} (hC : ∀ f ds x, C f ds = some x → Sound P f ds x) (r : Rl nt w0 h0 fr bl a w h hd) (o : Oper) (hdst : ∀ d, o.dst = some d → d < nt)
    {site : Nat} {v : V} {wr : List (Nat × Option Blk)} (ha : aop C site (evo fr) bl (lowOp P o) = some (v, wr)) {K : Act → World → Prop} {Q : Exit → Act → World → Prop}
    (hK : ∀ a' w' h' hd', Rl nt w0 h0 (updF fr o.dst v) (updB bl wr) a' w' h' hd' → K a' w') : o.wp P a w K Q := by
  unfold lowOp at ha
  cases hl : lowOp0 P o with
  | none => rw [hl] at ha; cases ha
  | some so => rw [hl] at ha; exact op_ok0 hC r o hl hdst ha hK
end
end Vm
end Go.Proofs.Ytdjfaepokfdihaa
