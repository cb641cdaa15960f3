/- The small machine's steps: what may become of memory. -/
import Derived.Test.YtdjfaepokfdihaaVmRel
set_option linter.unusedVariables false
namespace Go.Proofs.Ytdjfaepokfdihaa
namespace Vm
open Go.RowKit

theorem mapM'_some {α β : Type} {f : α → Option β} : ∀ {l : List α} {ys : List β}, mapM' f l = some ys → l.length = ys.length ∧ ∀ (i : Nat) (x : α), l[i]? = some x → ∃ y, ys[i]? = some y ∧ f x = some y
  | [], ys, h => by simp [mapM'] at h; subst h; simp
  | x :: r, ys, h => by
    simp only [mapM'] at h
    split at h
    · cases h
    · rename_i y hy
      split at h
      · cases h
      · rename_i zs hz
        cases h
        obtain ⟨h1, h2⟩ := mapM'_some hz
        refine ⟨by simp [h1], fun i x' hx => ?_⟩
        cases i with
        | zero => simp at hx; subst hx; exact ⟨y, by simp, hy⟩
        | succ i => simpa using h2 i x' (by simpa using hx)
theorem mapM'_back {α β : Type} {f : α → Option β} {l : List α} {ys : List β} (h : mapM' f l = some ys) {i : Nat} {y : β} (hy : ys[i]? = some y) : ∃ x, l[i]? = some x ∧ f x = some y := by
  obtain ⟨h1, h2⟩ := mapM'_some h
  have : i < l.length := by rw [h1]; exact (List.getElem?_eq_some_iff.1 hy).1
  obtain ⟨y', q1, q2⟩ := h2 i l[i] (by simp [this])
  rw [hy] at q1
  cases q1
  exact ⟨l[i], by simp [this], q2⟩


def updF (fr : Nat → V) (dst : Option Nat) (v : V) : Nat → V := fun t => if dst = some t then v else fr t
def updB (bl : Nat → Option Blk) (wr : List (Nat × Option Blk)) : Nat → Option Blk := fun id => lk wr (bl id) id
theorem updB_nil (bl : Nat → Option Blk) : updB bl [] = bl := rfl
theorem updB_cons (bl : Nat → Option Blk) (i : Nat) (b : Option Blk) (wr : List (Nat × Option Blk)) : updB bl ((i, b) :: wr) = updB (updB bl wr) [(i, b)] := by
  funext id; simp [updB, lk]
theorem updB_self (bl : Nat → Option Blk) (i : Nat) (b : Option Blk) : updB bl [(i, b)] i = b := by simp [updB, lk]
theorem updB_ne (bl : Nat → Option Blk) {i j : Nat} (b : Option Blk) (h : j ≠ i) : updB bl [(i, b)] j = bl j := by simp [updB, lk, h]

theorem getD_put (a : Act) (dst : Option Nat) (cv : Value) (t nt : Nat) (hs : a.tmps.size = nt) (hd : ∀ d, dst = some d → d < nt) :
    (a.put dst cv).tmps.getD t undef = if dst = some t then cv else a.tmps.getD t undef := by
  cases dst with
  | none => simp [Act.put]
  | some d =>
    have := hd d rfl
    simp only [Act.put, Option.some.injEq]
    by_cases e : d = t
    · subst e; simp [hs, this]
    · simp [e, Array.getElem?_setIfInBounds_ne e]

section
variable {nt : Nat} {w0 w w' : World} {h0 h h' : Hp} {fr : Nat → V} {bl bl' : Nat → Option Blk} {a : Act} {hd hd' : Nat → Value}

/-- the step: memory, then the slot -/
theorem Rl.put (r : Rl nt w0 h0 fr bl a w h hd) (dst : Option Nat) (cv : Value) (v : V) (hdst : ∀ d, dst = some d → d < nt)
    (hl : h.le h') (hle : h'.le (hw w')) (hb : ∀ b, b < w0.heap.size → h' b = h b) (hbel : Below w0.heap.size w w') (hk : Kp hd hd' bl bl')
    (hB : ∀ id b, bl' id = some b → BR w0.heap.size w' h' hd' bl' id b)
    (hsep : ∀ i j bi bj g, bl' i = some bi → bl' j = some bj → bi.live = true → bj.live = true → numOf (hd' i) = some g → numOf (hd' j) = some g → i = j)
    (hv : R3 h' hd' bl' cv v) : Rl nt w0 h0 (updF fr dst v) bl' (a.put dst cv) w' h' hd' where
  tmps := by cases dst <;> simp [Act.put, r.tmps]
  defers := by cases dst <;> simp [Act.put, r.defers]
  below := r.below.trans hbel
  hle := hle
  h0le := r.h0le.trans hl
  hbase := fun b h => (hb b h).trans (r.hbase b h)
  frame := fun t => by
    rw [getD_put a dst cv t nt r.tmps hdst]
    unfold updF
    by_cases e : dst = some t
    · rw [if_pos e, if_pos e]; exact hv
    · rw [if_neg e, if_neg e]; exact (r.frame t).keep hl hk
  blk := hB
  sep := hsep

/-- nothing but the slot -/
theorem Rl.put0 (r : Rl nt w0 h0 fr bl a w h hd) (dst : Option Nat) (cv : Value) (v : V) (hdst : ∀ d, dst = some d → d < nt) (hv : R3 h hd bl cv v) :
    Rl nt w0 h0 (updF fr dst v) bl (a.put dst cv) w h hd :=
  r.put dst cv v hdst (Hp.le.refl _) r.hle (fun _ _ => rfl) (Below.refl _ _) (Kp.refl _ _) r.blk r.sep hv

/-- one block turns (or is new); no other -/
theorem Rl.turn (r : Rl nt w0 h0 fr bl a w h hd) (dst : Option Nat) (cv : Value) (v : V) (hdst : ∀ d, dst = some d → d < nt)
    (id : Nat) (b : Blk) (hv' : Value) (hbel : Below w0.heap.size w w') (hle : h.le (hw w'))
    (hk : ∀ b0, bl id = some b0 → Kept hd (fun i => if i = id then hv' else hd i) id b0 b)
    (hoth : ∀ g, g < w.heap.size → (∀ b0, bl id = some b0 → b0.live = true → numOf (hd id) ≠ some g) → w'.heap[g]? = w.heap[g]?)
    (hB : BR w0.heap.size w' h (fun i => if i = id then hv' else hd i) (updB bl [(id, some b)]) id b)
    (hnew : ∀ g, numOf hv' = some g → b.live = true → w.heap.size ≤ g ∨ ∃ b0, bl id = some b0 ∧ b0.live = true ∧ numOf (hd id) = some g)
    (hvv : R3 h (fun i => if i = id then hv' else hd i) (updB bl [(id, some b)]) cv v) :
    Rl nt w0 h0 (updF fr dst v) (updB bl [(id, some b)]) (a.put dst cv) w' h (fun i => if i = id then hv' else hd i) := by
  have hkp : Kp hd (fun i => if i = id then hv' else hd i) bl (updB bl [(id, some b)]) := by
    intro j c hj
    by_cases e : j = id
    · subst e; exact ⟨b, updB_self _ _ _, hk c hj⟩
    · refine ⟨c, by rw [updB_ne _ _ e]; exact hj, ?_⟩
      have := Kept.refl hd j c
      cases c <;> simp only [Kept] at this ⊢ <;> simp [e]
  refine r.put dst cv v hdst (Hp.le.refl _) hle (fun _ _ => rfl) hbel hkp ?_ ?_ hvv
  · intro j c hj
    by_cases e : j = id
    · subst e
      rw [updB_self] at hj
      obtain rfl := Option.some.inj hj
      exact hB
    · rw [updB_ne _ _ e] at hj
      refine (r.blk j c hj).keep (Hp.le.refl _) hkp (by simp [e]) fun hl g hg => ⟨?_, fun q => q⟩
      refine hoth g ((r.blk j c hj).num hl hg).2.1 fun b0 hb0 hl0 hg0 => e (r.sep j id c b0 g hj hb0 hl hl0 hg hg0)
  · intro i j bi bj g hi hj li lj gi gj
    by_cases ei : i = id
    · subst ei
      by_cases ej : j = i
      · exact ej.symm
      · rw [updB_ne _ _ ej] at hj
        rw [updB_self] at hi
        obtain rfl := Option.some.inj hi
        simp only [if_pos] at gi
        rw [if_neg ej] at gj
        exfalso
        rcases hnew g gi li with q | ⟨b0, q1, q2, q3⟩
        · have := ((r.blk j bj hj).num lj gj).2.1; omega
        · exact ej (r.sep j i bj b0 g hj q1 lj q2 gj q3)
    · rw [updB_ne _ _ ei] at hi
      rw [if_neg ei] at gi
      by_cases ej : j = id
      · subst ej
        rw [updB_self] at hj
        obtain rfl := Option.some.inj hj
        simp only [if_pos] at gj
        exfalso
        rcases hnew g gj lj with q | ⟨b0, q1, q2, q3⟩
        · have := ((r.blk i bi hi).num li gi).2.1; omega
        · exact ei (r.sep i j bi b0 g hi q1 li q2 gi q3)
      · rw [updB_ne _ _ ej] at hj
        rw [if_neg ej] at gj
        exact r.sep i j bi bj g hi hj li lj gi gj

theorem hle_alloc (hle : h.le (hw w)) (o : Obj) : h.le (hw (w.alloc o)) := fun b x e => by
  have := hle b x e
  have hlt : b < w.heap.size := (Array.getElem?_eq_some_iff.1 this).1
  exact (heap_alloc_old w o b hlt).trans this
theorem h_fresh (hle : h.le (hw w)) {g : Nat} (hg : w.heap.size ≤ g) : h g = none := by
  cases e : h g with
  | none => rfl
  | some o => exact absurd (Array.getElem?_eq_some_iff.1 (hle g o e)).1 (by omega)

theorem own_one {base e size n : Nat} {v : Value} {xs : List Value} (h : w.ownsRow base e size v n xs) : v.oneCell' = true := by
  rcases h.2 with ⟨rfl, _⟩ | ⟨g, cap, cur, rfl, _⟩ <;> rfl
/-- a new box -/
theorem Rl.newBox (r : Rl nt w0 h0 fr bl a w h hd) (dst : Option Nat) (hdst : ∀ d, dst = some d → d < nt) (site : Nat) (hs : bl site = none) (arr : Array Value) (e : TypeId) (cs : List V)
    (hl : arr.size = cs.length) (hr : ∀ j x, cs[j]? = some x → R1 h hd bl (arr.getD j undef) x ∧ (arr.getD j undef).oneCell' = true) :
    ∃ hd', Rl nt w0 h0 (updF fr dst (.ptr site 0)) (updB bl [(site, some (.box cs))]) (a.put dst (.pointer (some ⟨w.heap.size, 0, none⟩))) (w.alloc (.cells arr e)) h hd' := by
  have hbase : w0.heap.size ≤ w.heap.size := r.below.size
  have hkp : Kp hd (fun i => if i = site then .pointer (some ⟨w.heap.size, 0, none⟩) else hd i) bl (updB bl [(site, some (.box cs))]) := by
    intro j c hj
    have e : j ≠ site := fun e => by rw [e, hs] at hj; cases hj
    refine ⟨c, by rw [updB_ne _ _ e]; exact hj, ?_⟩
    have := Kept.refl hd j c
    cases c <;> simp only [Kept] at this ⊢ <;> simp [e]
  refine ⟨_, r.turn dst _ _ hdst site (.box cs) (.pointer (some ⟨w.heap.size, 0, none⟩)) ((Below.refl _ _).alloc hbase _) (hle_alloc r.hle _)
    (fun b0 hb0 => by rw [hs] at hb0; cases hb0) (fun g hg _ => heap_alloc_old w _ g hg) ?_ (fun g hg _ => .inl (by simp [numOf] at hg; omega)) ?_⟩
  · exact ⟨w.heap.size, arr, e, by simp, hbase, heap_alloc_new w _, hl, fun j x hx => ⟨(hr j x hx).1.keep (Hp.le.refl _) hkp, (hr j x hx).2⟩, h_fresh r.hle (Nat.le_refl _)⟩
  · exact ⟨⟨_, updB_self _ _ _, rfl⟩, w.heap.size, by simp, rfl⟩

/-- new rows -/
theorem Rl.newRows' (r : Rl nt w0 h0 fr bl a w h hd) (dst : Option Nat) (hdst : ∀ d, dst = some d → d < nt) (site : Nat) (hs : bl site = none) (e size : Nat) (rows : List (List D)) (hv : Value) (xs : List Value)
    (hsz : 0 < size) (hlen : rows.length ≤ maxLen) (hg : w.grownBy w' none) (hown : w'.ownsRow w.heap.size e size hv rows.length xs) (hin : RowsIn h size rows xs) :
    ∃ hd' : Nat → Value, hd' site = hv ∧ Rl nt w0 h0 (updF fr dst (.own site 0)) (updB bl [(site, some (.rows 0 e size rows))]) (a.put dst hv) w' h hd' := by
  have hbase : w0.heap.size ≤ w.heap.size := r.below.size
  have hown' : w'.ownsRow w0.heap.size e size hv rows.length xs := ⟨hown.1, by
    rcases hown.2 with q | ⟨g, cap, cur, q1, q2, q3⟩
    · exact .inl q
    · exact .inr ⟨g, cap, cur, q1, by omega, q3⟩⟩
  have hbel : Below w0.heap.size w w' := (Below.refl _ _).grown hg hbase (fun k hk => by cases hk)
  have hle : h.le (hw w') := fun b o hb => by
    have := r.hle b o hb
    exact (hg.block b (Array.getElem?_eq_some_iff.1 this).1 (by simp)).trans this
  refine ⟨_, by simp, r.turn dst _ _ hdst site (.rows 0 e size rows) hv hbel hle
    (fun b0 hb0 => by rw [hs] at hb0; cases hb0) (fun g hg' _ => hg.block g hg' (by simp)) ?_ (fun g hg' _ => .inl (hown.lt g ((num_own hown) ▸ hg')).1) ?_⟩
  · exact ⟨hsz, hlen, ⟨xs, by simpa using hown', hin⟩, fun g hg' => h_fresh r.hle (hown.lt g ((num_own hown) ▸ (by simpa using hg'))).1⟩
  · exact ⟨_, 0, updB_self _ _ _, rfl, Nat.le_refl _, own_one hown, fun _ => by simp⟩


theorem Rl.newRows (r : Rl nt w0 h0 fr bl a w h hd) (dst : Option Nat) (hdst : ∀ d, dst = some d → d < nt) (site : Nat) (hs : bl site = none) (e size : Nat) (rows : List (List D)) (hv : Value) (xs : List Value)
    (hsz : 0 < size) (hlen : rows.length ≤ maxLen) (hg : w.grownBy w' none) (hown : w'.ownsRow w.heap.size e size hv rows.length xs) (hin : RowsIn h size rows xs) :
    ∃ hd', Rl nt w0 h0 (updF fr dst (.own site 0)) (updB bl [(site, some (.rows 0 e size rows))]) (a.put dst hv) w' h hd' :=
  let ⟨hd', _, q⟩ := r.newRows' dst hdst site hs e size rows hv xs hsz hlen hg hown hin
  ⟨hd', q⟩

/-- rows of one's own that grew -/
theorem Rl.grow (r : Rl nt w0 h0 fr bl a w h hd) (dst : Option Nat) (hdst : ∀ d, dst = some d → d < nt) (id ver e size : Nat) (rows rows' : List (List D)) (hb : bl id = some (.rows ver e size rows)) (hv : Value) (xs : List Value)
    (hlen : rows'.length ≤ maxLen) (hg : w.grownBy w' (hd id).ownBlock) (hown : w'.ownsRow w0.heap.size e size hv rows'.length xs) (hin : RowsIn h size rows' xs)
    (hnew : ∀ g, numOf hv = some g → w.heap.size ≤ g ∨ numOf (hd id) = some g) :
    ∃ hd', Rl nt w0 h0 (updF fr dst (.own id (ver + 1))) (updB bl [(id, some (.rows (ver + 1) e size rows'))]) (a.put dst hv) w' h hd' := by
  have hbase : w0.heap.size ≤ w.heap.size := r.below.size
  obtain ⟨q1, q2, ⟨xs0, q3, q4⟩, q5⟩ := r.blk id _ hb
  have hnum : numOf (hd id) = (hd id).ownBlock := num_own q3
  have hbel : Below w0.heap.size w w' := (Below.refl _ _).grown hg hbase (fun k hk => (q3.lt k hk).1)
  have hle : h.le (hw w') := fun b o hb' => by
    have := r.hle b o hb'
    refine (hg.block b (Array.getElem?_eq_some_iff.1 this).1 fun e' => ?_).trans this
    rw [q5 b (hnum.trans e'.symm)] at hb'
    cases hb'
  refine ⟨_, r.turn dst _ _ hdst id (.rows (ver + 1) e size rows') hv hbel hle
    (fun b0 hb0 => by rw [hb] at hb0; cases hb0; exact .inr (Nat.lt_succ_self _)) (fun g hg' hne => hg.block g hg' (fun e' => hne _ hb rfl (hnum.trans e'.symm))) ?_
    (fun g hg' _ => (hnew g hg').imp (fun q => q) fun q => ⟨_, hb, rfl, q⟩) ?_⟩
  · refine ⟨q1, hlen, ⟨xs, by simpa using hown, hin⟩, fun g hg' => ?_⟩
    simp only [if_pos] at hg'
    rcases hnew g hg' with q | q
    · exact h_fresh r.hle q
    · exact q5 g q
  · exact ⟨_, ver + 1, updB_self _ _ _, rfl, Nat.le_refl _, own_one hown, fun _ => by simp⟩

/-- a box that is written -/
theorem Rl.setBox (r : Rl nt w0 h0 fr bl a w h hd) (dst : Option Nat) (hdst : ∀ d, dst = some d → d < nt) (cv : Value) (id : Nat) (cs cs' : List V) (hb : bl id = some (.box cs)) (g : Nat) (arr arr' : Array Value) (e : TypeId)
    (hd0 : hd id = .pointer (some ⟨g, 0, none⟩)) (hl : arr'.size = cs'.length) (hr : ∀ j x, cs'[j]? = some x → R1 h hd bl (arr'.getD j undef) x ∧ (arr'.getD j undef).oneCell' = true)
    (hg' : w'.heap[g]? = some (.cells arr' e (0, 0))) (hg : w.grownBy w' (some g)) :
    ∃ hd', Rl nt w0 h0 (updF fr dst .any) (updB bl [(id, some (.box cs'))]) (a.put dst cv) w' h hd' := by
  have hbase : w0.heap.size ≤ w.heap.size := r.below.size
  have hnum : numOf (hd id) = some g := by rw [hd0]; rfl
  obtain ⟨n1, n2, n3⟩ := (r.blk id _ hb).num rfl hnum
  have hbel : Below w0.heap.size w w' := (Below.refl _ _).grown hg hbase (fun k hk => by cases hk; exact n1)
  have hle : h.le (hw w') := fun b o hb' => by
    have := r.hle b o hb'
    refine (hg.block b (Array.getElem?_eq_some_iff.1 this).1 fun e' => ?_).trans this
    cases e'
    rw [n3] at hb'
    cases hb'
  have hfe : (fun i => if i = id then hd id else hd i) = hd := by funext i; by_cases e : i = id <;> simp [e]
  have hkp : Kp hd hd bl (updB bl [(id, some (.box cs'))]) := by
    intro j c hj
    by_cases e : j = id
    · subst e; rw [hb] at hj; cases hj; exact ⟨_, updB_self _ _ _, rfl⟩
    · exact ⟨c, by rw [updB_ne _ _ e]; exact hj, Kept.refl hd j c⟩
  have := r.turn (w' := w') dst cv .any hdst id (.box cs') (hd id) hbel hle
    (fun b0 hb0 => by rw [hb] at hb0; cases hb0; simp [Kept]) (fun k hk hne => hg.block k hk (fun e' => by cases e'; exact hne _ hb rfl hnum)) ?_
    (fun k hk _ => .inr ⟨_, hb, rfl, hk⟩) trivial
  · rw [hfe] at this; exact ⟨_, this⟩
  · rw [hfe]
    exact ⟨g, arr', e, hd0, n1, hg', hl, fun j x hx => ⟨(hr j x hx).1.keep (Hp.le.refl _) hkp, (hr j x hx).2⟩, n3⟩

/-- rows that are written -/
theorem Rl.setRows (r : Rl nt w0 h0 fr bl a w h hd) (dst : Option Nat) (hdst : ∀ d, dst = some d → d < nt) (cv : Value) (id ver e size : Nat) (rows rows' : List (List D)) (hb : bl id = some (.rows ver e size rows)) (xs : List Value)
    (hlen : rows'.length = rows.length) (hg : w.grownBy w' (hd id).ownBlock) (hown : w'.ownsRow w0.heap.size e size (hd id) rows'.length xs) (hin : RowsIn h size rows' xs) :
    ∃ hd', Rl nt w0 h0 (updF fr dst .any) (updB bl [(id, some (.rows ver e size rows'))]) (a.put dst cv) w' h hd' := by
  have hbase : w0.heap.size ≤ w.heap.size := r.below.size
  obtain ⟨q1, q2, ⟨xs0, q3, q4⟩, q5⟩ := r.blk id _ hb
  have hnum : numOf (hd id) = (hd id).ownBlock := num_own q3
  have hbel : Below w0.heap.size w w' := (Below.refl _ _).grown hg hbase (fun k hk => (q3.lt k hk).1)
  have hle : h.le (hw w') := fun b o hb' => by
    have := r.hle b o hb'
    refine (hg.block b (Array.getElem?_eq_some_iff.1 this).1 fun e' => ?_).trans this
    rw [q5 b (hnum.trans e'.symm)] at hb'
    cases hb'
  have hfe : (fun i => if i = id then hd id else hd i) = hd := by funext i; by_cases e : i = id <;> simp [e]
  have := r.turn (w' := w') dst cv .any hdst id (.rows ver e size rows') (hd id) hbel hle
    (fun b0 hb0 => by rw [hb] at hb0; cases hb0; simp [Kept]) (fun g hg' hne => hg.block g hg' (fun e' => hne _ hb rfl (hnum.trans e'.symm))) ?_
    (fun g hg' _ => .inr ⟨_, hb, rfl, hg'⟩) trivial
  · rw [hfe] at this; exact ⟨_, this⟩
  · rw [hfe]
    exact ⟨q1, by omega, ⟨xs, hown, hin⟩, q5⟩

/-! ### blocks that are never written again -/
def FzOk (bl : Nat → Option Blk) (wr : List (Nat × Option Blk)) : Prop := ∀ p ∈ wr, (∃ v e s rows, bl p.1 = some (.rows v e s rows) ∧ p.2 = some (.froz v rows)) ∨
  (∃ cs ds, bl p.1 = some (.box cs) ∧ p.2 = some (.fbox ds) ∧ mapM' (toD0 bl) cs = some ds ∧ ∀ q ∈ cs.flatMap (fz0 bl), q ∈ wr)
theorem FzOk.live {bl : Nat → Option Blk} {wr : List (Nat × Option Blk)} (hok : FzOk bl wr) {p : Nat × Option Blk} (hp : p ∈ wr) : ∃ b, bl p.1 = some b ∧ b.live = true := by
  rcases hok p hp with ⟨v, e, s, rows, h1, _⟩ | ⟨cs, ds, h1, _⟩
  · exact ⟨_, h1, rfl⟩
  · exact ⟨_, h1, rfl⟩
theorem ptr_off {h : Hp} {g off : Nat} {row : List D} (r : Reads h (.pointer (some ⟨g, 0, none⟩)) (.ptr row 0)) : Reads h (.pointer (some ⟨g, off, none⟩)) (.ptr row off) := by
  generalize hz : (0 : Nat) = z at r
  cases r with
  | ptr b o off' n row cv hn hm hr ho => exact .ptr g o off off row cv (by omega) hm hr ho
def hFz (w : World) (h : Hp) (hd : Nat → Value) (wr : List (Nat × Option Blk)) : Hp := fun g => if wr.any (fun p => numOf (hd p.1) == some g) then w.heap[g]? else h g
theorem hFz_le (r : Rl nt w0 h0 fr bl a w h hd) (wr : List (Nat × Option Blk)) : h.le (hFz w h hd wr) := fun b o e => by
  unfold hFz
  split
  · exact r.hle b o e
  · exact e
theorem hFz_hw (r : Rl nt w0 h0 fr bl a w h hd) (wr : List (Nat × Option Blk)) : (hFz w h hd wr).le (hw w) := fun b o e => by
  unfold hFz at e
  split at e
  · exact e
  · exact r.hle b o e
theorem hFz_base (r : Rl nt w0 h0 fr bl a w h hd) (wr : List (Nat × Option Blk)) (hok : FzOk bl wr) : ∀ b, b < w0.heap.size → hFz w h hd wr b = h b := fun b hb => by
  unfold hFz
  split
  · rename_i q
    obtain ⟨p, hp, he⟩ := List.any_eq_true.1 q
    obtain ⟨b, h1, h2⟩ := hok.live hp
    have := (r.blk p.1 _ h1).num h2 (by simpa using he)
    omega
  · rfl
theorem own_reads {base e size n : Nat} {v : Value} {xs : List Value} {rows : List (List D)} (hown : w.ownsRow base e size v n xs) (hin : RowsIn h size rows xs) (hn : rows.length = n) (hsz : 0 < size)
    (l : h.le h') (hb : ∀ g, numOf v = some g → h' g = w.heap[g]?) : Reads h' v (.sl rows) := by
  rcases hown.2 with ⟨rfl, h0⟩ | ⟨g, cap, cur, rfl, hg, hh, hc, hm, hs, ht⟩
  · obtain rfl : rows = [] := List.eq_nil_of_length_eq_zero (by omega)
    exact .sl0 none 0 (fun _ => rfl)
  · have key : ∀ i row j x, rows[i]? = some row → row[j]? = some x → ∃ u, cur[i * size + j]? = some u ∧ Reads h u x ∧ x.atom = true := by
      intro i row j x h1 h2
      obtain ⟨q1, q2⟩ := hin i row h1
      obtain ⟨q3, u, q4, q5⟩ := q2 j x h2
      refine ⟨u, ?_, q5, q3⟩
      rw [← ht, List.getElem?_take] at q4
      split at q4
      · simpa using q4
      · cases q4
    refine .sl g 0 cap size n rows (fun i j => cur.getD (i * size + j) undef) hn.symm (by omega) (fun i row h1 => (hin i row h1).1) ?_ ?_ ?_
    · intro i row j x h1 h2
      obtain ⟨u, q1, q2, q3⟩ := key i row j x h1 h2
      have : h' g = w.heap[g]? := hb g rfl
      simp only [Hp.cell, this, hh, Nat.zero_add, q1]
      simp [q1]
    · intro i row j x h1 h2
      obtain ⟨u, q1, q2, q3⟩ := key i row j x h1 h2
      have : cur.getD (i * size + j) undef = u := by simp [q1]
      rw [this]; exact q2.mono l
    · intro i row j x h1 h2
      obtain ⟨u, q1, q2, q3⟩ := key i row j x h1 h2
      have : cur.getD (i * size + j) undef = u := by simp [q1]
      rw [this]; exact q2.one q3
theorem fz_reads (r : Rl nt w0 h0 fr bl a w h hd) (wr : List (Nat × Option Blk)) {p : Nat × Option Blk} (hp : p ∈ wr) {v e s : Nat} {rows : List (List D)} (hb : bl p.1 = some (.rows v e s rows)) : Reads (hFz w h hd wr) (hd p.1) (.sl rows) := by
  obtain ⟨q1, q2, ⟨xs, q3, q4⟩, q5⟩ := r.blk p.1 _ hb
  refine own_reads q3 q4 rfl q1 (hFz_le r wr) fun g hg => ?_
  unfold hFz
  rw [if_pos (List.any_eq_true.2 ⟨p, hp, by simp [hg]⟩)]

theorem lk_mem {α : Type} : ∀ (l : List (Nat × α)) (d : α) (t : Nat), lk l d t = d ∨ ∃ p ∈ l, p.1 = t ∧ p.2 = lk l d t
  | [], d, t => .inl rfl
  | (k, v) :: r, d, t => by
    unfold lk
    by_cases e : t = k
    · rw [if_pos e]; exact .inr ⟨(k, v), by simp, e.symm, rfl⟩
    · rw [if_neg e]
      rcases lk_mem r d t with q | ⟨p, q1, q2⟩
      · exact .inl q
      · exact .inr ⟨p, by simp [q1], q2⟩
theorem lk_hit {α : Type} : ∀ (l : List (Nat × α)) (d : α) (t : Nat), (∃ p ∈ l, p.1 = t) → ∃ p ∈ l, p.1 = t ∧ p.2 = lk l d t
  | [], d, t, ⟨p, hp, _⟩ => by cases hp
  | (k, v) :: r, d, t, h => by
    unfold lk
    by_cases e : t = k
    · rw [if_pos e]; exact ⟨(k, v), by simp, e.symm, rfl⟩
    · rw [if_neg e]
      obtain ⟨p, hp, hpe⟩ := h
      obtain ⟨p', q1, q2⟩ := lk_hit r d t ⟨p, by rcases List.mem_cons.1 hp with rfl | q; exact absurd hpe.symm e; exact q, hpe⟩
      exact ⟨p', by simp [q1], q2⟩

theorem toD0_ok (r : Rl nt w0 h0 fr bl a w h hd) (wr : List (Nat × Option Blk)) {v : Value} {x : V} {d : D} (hx : R1 h hd bl v x) (e : toD0 bl x = some d) (hw : ∀ p ∈ fz0 bl x, p ∈ wr) :
    Reads (hFz w h hd wr) v d ∧ d.atom = true := by
  cases x with
  | d y => simp only [toD0, Option.some.injEq] at e; subst e; exact ⟨hx.2.mono (hFz_le r wr), hx.1⟩
  | nil => simp only [toD0, Option.some.injEq] at e; subst e; rw [show v = _ from hx]; exact ⟨.sl0 none 0 (fun _ => rfl), rfl⟩
  | own id ver =>
    obtain ⟨b, c, hb, hc, hle, h1, he⟩ := hx
    simp only [toD0, hb] at e
    cases b with
    | rows v' e' s rows =>
      simp only [Blk.ver?, Option.some.injEq] at hc
      simp only at e
      split at e
      · rename_i hv
        cases e
        rw [he (by omega)]
        exact ⟨fz_reads r wr (p := (id, some (.froz v' rows))) (hw _ (by simp [fz0, hb])) hb, rfl⟩
      · cases e
    | froz v' rows =>
      simp only [Blk.ver?, Option.some.injEq] at hc
      simp only at e
      split at e
      · rename_i hv
        cases e
        rw [he (by omega)]
        exact ⟨Reads.mono (hFz_le r wr) (r.blk id _ hb), rfl⟩
      · cases e
    | _ => cases e
  | ptr id off =>
    obtain ⟨⟨b, hb, hbx⟩, g, hg, rfl⟩ := hx
    simp only [toD0, hb] at e
    cases b with
    | fbox cs =>
      simp only [Option.some.injEq] at e
      subst e
      have := r.blk id _ hb
      simp only [BR, hg] at this
      exact ⟨Reads.mono (hFz_le r wr) (ptr_off this), rfl⟩
    | _ => cases e
  | fn f caps =>
    obtain ⟨rfl, rfl⟩ := hx
    simp only [toD0, List.isEmpty_nil, if_true, Option.some.injEq] at e
    subst e
    exact ⟨.fn f #[] [] rfl (fun j x e => by simp at e), rfl⟩
  | _ => cases e

theorem fz_box (r : Rl nt w0 h0 fr bl a w h hd) (wr : List (Nat × Option Blk)) {p : Nat × Option Blk} (hp : p ∈ wr) {cs : List V} {ds : List D} (hb : bl p.1 = some (.box cs)) (hm : mapM' (toD0 bl) cs = some ds) (hq : ∀ q ∈ cs.flatMap (fz0 bl), q ∈ wr) : Reads (hFz w h hd wr) (hd p.1) (.ptr ds 0) := by
  obtain ⟨g, arr, e, h1, h2, h3, h4, h5, h6⟩ := r.blk p.1 _ hb
  obtain ⟨m1, m2⟩ := mapM'_some hm
  have hg : hFz w h hd wr g = some (.cells arr e (0, 0)) := by
    unfold hFz
    rw [if_pos (List.any_eq_true.2 ⟨p, hp, by simp [h1, numOf]⟩)]
    exact h3
  have key : ∀ (j : Nat) (x : D), ds[j]? = some x → j < arr.size ∧ Reads (hFz w h hd wr) (arr.getD j undef) x ∧ (arr.getD j undef).oneCell' = true := by
    intro j x hx
    obtain ⟨y, hy, hyx⟩ := mapM'_back hm hx
    have hj : j < arr.size := by rw [h4]; exact (List.getElem?_eq_some_iff.1 hy).1
    exact ⟨hj, (toD0_ok r wr (h5 j y hy).1 hyx fun q hq' => hq q (List.mem_flatMap.2 ⟨y, List.mem_of_getElem? hy, hq'⟩)).1, (h5 j y hy).2⟩
  rw [h1]
  refine .ptr g 0 0 0 ds (fun j => arr.getD j undef) rfl ?_ (fun j x hx => (key j x hx).2.1) (fun j x hx => (key j x hx).2.2)
  intro j x hx
  have hj := (key j x hx).1
  simp [Hp.cell, hg, hj]

/-- freezing -/
theorem Rl.freeze (r : Rl nt w0 h0 fr bl a w h hd) (wr : List (Nat × Option Blk)) (hok : FzOk bl wr) : Rl nt w0 h0 fr (updB bl wr) a w (hFz w h hd wr) hd := by
  have hcase : ∀ id b', updB bl wr id = some b' → (bl id = some b' ∧ (∀ p ∈ wr, p.1 ≠ id)) ∨ (b'.live = false ∧ ∃ p ∈ wr, p.1 = id ∧ p.2 = some b') := by
    intro id b' hb
    unfold updB at hb
    by_cases hm : ∃ p ∈ wr, p.1 = id
    · obtain ⟨p, q1, q2, q3⟩ := lk_hit wr (bl id) id hm
      rw [hb] at q3
      refine .inr ⟨?_, p, q1, q2, q3⟩
      rcases hok p q1 with ⟨v, e, s, rows, q4, q5⟩ | ⟨cs, ds, q4, q5, _⟩
      · rw [q3] at q5; cases q5; rfl
      · rw [q3] at q5; cases q5; rfl
    · rcases lk_mem wr (bl id) id with q | ⟨p, q1, q2, q3⟩
      · exact .inl ⟨q ▸ hb, fun p hp e => hm ⟨p, hp, e⟩⟩
      · exact absurd ⟨p, q1, q2⟩ hm
  have hkp : Kp hd hd bl (updB bl wr) := by
    intro id b hb
    by_cases hm : ∃ p ∈ wr, p.1 = id
    · obtain ⟨p, q1, q2, q3⟩ := lk_hit wr (bl id) id hm
      rcases hok p q1 with ⟨v, e, s, rows, q4, q5⟩ | ⟨cs, ds, q4, q5, _⟩
      · rw [q2, hb] at q4
        cases q4
        exact ⟨.froz v rows, by unfold updB; rw [← q3, q5], by simp [Kept]⟩
      · rw [q2, hb] at q4
        cases q4
        exact ⟨.fbox ds, by unfold updB; rw [← q3, q5], by simp [Kept]⟩
    · refine ⟨b, ?_, Kept.refl hd id b⟩
      unfold updB
      rcases lk_mem wr (bl id) id with q | ⟨p, q1, q2, q3⟩
      · rw [q]; exact hb
      · exact absurd ⟨p, q1, q2⟩ hm
  refine { tmps := r.tmps, defers := r.defers, below := r.below, hle := hFz_hw r wr, h0le := r.h0le.trans (hFz_le r wr), hbase := fun b hb => (hFz_base r wr hok b hb).trans (r.hbase b hb),
           frame := fun t => (r.frame t).keep (hFz_le r wr) hkp, blk := ?_, sep := ?_ }
  · intro id b' hb'
    rcases hcase id b' hb' with ⟨hb, hn⟩ | ⟨hl, p, hp, rfl, hpe⟩
    · refine (r.blk id b' hb).keep (hFz_le r wr) hkp rfl fun hl g hg => ⟨rfl, fun hn' => ?_⟩
      unfold hFz
      rw [if_neg]
      · exact hn'
      · intro q
        obtain ⟨p, hp, he⟩ := List.any_eq_true.1 q
        obtain ⟨b, h1, h2⟩ := hok.live hp
        exact hn p hp (r.sep p.1 id _ b' g h1 hb h2 hl (by simpa using he) hg)
    · rcases hok p hp with ⟨v, e, s, rows, q4, q5⟩ | ⟨cs, ds, q4, q5, q6, q7⟩
      · rw [hpe] at q5
        cases q5
        exact fz_reads r wr hp q4
      · rw [hpe] at q5
        cases q5
        exact fz_box r wr hp q4 q6 q7
  · intro i j bi bj g hi hj li lj gi gj
    rcases hcase i bi hi with ⟨hi', _⟩ | ⟨q, _⟩
    · rcases hcase j bj hj with ⟨hj', _⟩ | ⟨q, _⟩
      · exact r.sep i j bi bj g hi' hj' li lj gi gj
      · rw [q] at lj; cases lj
    · rw [q] at li; cases li
end
end Vm
end Go.Proofs.Ytdjfaepokfdihaa
