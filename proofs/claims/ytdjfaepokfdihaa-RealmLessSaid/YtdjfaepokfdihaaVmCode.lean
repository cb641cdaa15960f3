/- Code is run; calls are run. -/
import Derived.Test.YtdjfaepokfdihaaVmRun
set_option linter.unusedVariables false
namespace Go.Proofs.Ytdjfaepokfdihaa
namespace Vm
open Go.RowKit

/-! ### what is forgotten on the way -/
def norm1 (keep : List Nat) (bl : Nat → Option Blk) : V → V
  | .ptr id off => match bl id with
    | some (.box _) => if keep.contains id then .ptr id off else .any
    | some (.fbox cs) => .d (.ptr cs off)
    | _ => .any
  | .own id ver => match bl id with
    | some (.rows v _ _ _) => if keep.contains id && ver == v then .own id 0 else .any
    | some (.froz v rows) => if ver = v then .d (.sl rows) else .any
    | _ => .any
  | .orow id ver i off => match bl id with
    | some (.rows v _ _ _) => if keep.contains id && ver == v then .orow id 0 i off else .any
    | _ => .any
  | v => v
def norm2 (keep : List Nat) (bl : Nat → Option Blk) : V → V
  | .agg cs => .agg (cs.map (norm1 keep bl))
  | v => norm1 keep bl v
def norm3 (keep : List Nat) (bl : Nat → Option Blk) : V → V
  | .tup vs => .tup (vs.map (norm2 keep bl))
  | v => norm2 keep bl v
def normB (keep : List Nat) (bl : Nat → Option Blk) : Blk → Option Blk
  | .box cs => some (.box (cs.map (norm1 keep bl)))
  | .rows _ e s rows => some (.rows 0 e s rows)
  | .froz _ _ => none
  | .fbox _ => none
def mkT (p : Nat × Nat × Nat × Nat) (s : St) : St := match s.get p.1, s.blk p.2.1 with
  | .nil, none => if 0 < p.2.2.2 then ⟨(p.1, .own p.2.1 0) :: s.fr, (p.2.1, some (.rows 0 p.2.2.1 p.2.2.2 [])) :: s.bl⟩ else s
  | _, _ => s
def mkC (p : Nat × Nat × Nat × Nat × Nat) (s : St) : St := match s.blk p.1, s.blk p.2.2.1 with
  | some (.box cs), none => match cs[p.2.1]? with
    | some .nil => if 0 < p.2.2.2.2 then ⟨s.fr, (p.1, some (.box (cs.set p.2.1 (.own p.2.2.1 0)))) :: (p.2.2.1, some (.rows 0 p.2.2.2.1 p.2.2.2.2 [])) :: s.bl⟩ else s
    | _ => s
  | _, _ => s
/-- a slice that is not written any more -/
def frT (t : Nat) (s : St) : St := match toD0 s.blk (s.get t) with
  | some d => ⟨(t, .d d) :: s.fr, fz0 s.blk (s.get t) ++ s.bl⟩
  | none => s
def frC (p : Nat × Nat) (s : St) : St := match s.blk p.1 with
  | some (.box cs) => match cs[p.2]? with
    | some v => match toD0 s.blk v with
      | some d => ⟨s.fr, (p.1, some (.box (cs.set p.2 (.d d)))) :: (fz0 s.blk v ++ s.bl)⟩
      | none => s
    | none => s
  | _ => s
def keepS (live keep : List Nat) (s : St) : St := ⟨live.map fun t => (t, norm3 keep s.blk (s.get t)), keep.map fun i => (i, (s.blk i).bind (normB keep s.blk))⟩
def Mask.app (m : Mask) (s : St) : St := keepS m.live m.keep (m.fzC.foldl (fun s p => frC p s) (m.fzT.foldl (fun s t => frT t s) (m.ownC.foldl (fun s p => mkC p s) (m.ownT.foldl (fun s p => mkT p s) s))))

section
variable {nt : Nat} {w0 w : World} {h0 h : Hp} {s : St} {a : Act} {hd : Nat → Value}
theorem lk_map {α : Type} (f : Nat → α) (d : α) (t : Nat) : ∀ l : List Nat, lk (l.map fun i => (i, f i)) d t = if t ∈ l then f t else d
  | [] => rfl
  | k :: l => by
    simp only [List.map_cons, lk, lk_map f d t l, List.mem_cons]
    by_cases e : t = k
    · subst e; simp
    · simp [e]
theorem norm1_ok {fr : Nat → V} {bl bl' : Nat → Option Blk} {keep : List Nat} (r : Rl nt w0 h0 fr bl a w h hd) (hbl : ∀ i, bl' i = if i ∈ keep then (bl i).bind (normB keep bl) else none) {v : Value} {x : V} (hx : R1 h hd bl v x) : R1 h hd bl' v (norm1 keep bl x) := by
  cases x with
  | ptr id off =>
    obtain ⟨⟨b, hb, hbx⟩, g, q1, q2⟩ := hx
    simp only [norm1, hb]
    cases b with
    | box cs =>
      simp only
      split
      · rename_i hk
        exact ⟨⟨_, by rw [hbl, if_pos (by simpa using hk), hb]; rfl, rfl⟩, g, q1, q2⟩
      · trivial
    | fbox cs =>
      have := r.blk id _ hb
      simp only [BR, q1] at this
      subst q2
      exact ⟨rfl, ptr_off this⟩
    | _ => trivial
  | own id ver =>
    obtain ⟨b, c, hb, hc, hle, h1, he⟩ := hx
    simp only [norm1, hb]
    cases b with
    | box cs => trivial
    | fbox cs => trivial
    | rows v' e s rows =>
      simp only [Blk.ver?, Option.some.injEq] at hc
      simp only
      split
      · rename_i hk
        simp only [Bool.and_eq_true, beq_iff_eq] at hk
        exact ⟨_, 0, by rw [hbl, if_pos (by simpa using hk.1), hb]; rfl, rfl, Nat.le_refl _, h1, fun _ => he (by omega)⟩
      · trivial
    | froz v' rows =>
      simp only [Blk.ver?, Option.some.injEq] at hc
      simp only
      split
      · rename_i hv
        refine ⟨rfl, ?_⟩
        rw [he (by omega)]
        exact r.blk id _ hb
      · trivial
  | orow id ver i off =>
    obtain ⟨b, c, hb, hc, hle, h1, he⟩ := hx
    simp only [norm1, hb]
    cases b with
    | rows v' e s rows =>
      simp only [Blk.ver?, Option.some.injEq] at hc
      simp only
      split
      · rename_i hk
        simp only [Bool.and_eq_true, beq_iff_eq] at hk
        obtain ⟨hk, rfl⟩ := hk
        refine ⟨_, 0, by rw [hbl, if_pos (by simpa using hk), hb]; rfl, rfl, Nat.le_refl _, h1, fun e' s' rows' eq => ?_⟩
        cases eq
        exact he e s rows rfl
      · trivial
    | _ => trivial
  | any => trivial
  | d x => exact hx
  | nil => exact hx
  | agg cs => exact hx
  | tup cs => exact hx
  | fn f caps => exact hx
theorem norm2_ok {fr : Nat → V} {bl bl' : Nat → Option Blk} {keep : List Nat} (r : Rl nt w0 h0 fr bl a w h hd) (hbl : ∀ i, bl' i = if i ∈ keep then (bl i).bind (normB keep bl) else none) {v : Value} {x : V} (hx : R2 h hd bl v x) : R2 h hd bl' v (norm2 keep bl x) := by
  cases x with
  | agg cs =>
    obtain ⟨arr, rfl, h1, h2⟩ := hx
    refine ⟨arr, rfl, by simpa using h1, fun j x hx => ?_⟩
    rw [List.getElem?_map, Option.map_eq_some_iff] at hx
    obtain ⟨y, hy, rfl⟩ := hx
    exact ⟨norm1_ok r hbl (h2 j y hy).1, (h2 j y hy).2⟩
  | tup vs => exact (show False from hx).elim
  | any => exact R2.of1 (norm1_ok r hbl (x := .any) hx)
  | d x => exact R2.of1 (norm1_ok r hbl (x := .d x) hx)
  | nil => exact R2.of1 (norm1_ok r hbl (x := .nil) hx)
  | ptr i o => exact R2.of1 (norm1_ok r hbl (x := .ptr i o) hx)
  | own i n => exact R2.of1 (norm1_ok r hbl (x := .own i n) hx)
  | orow i n j o => exact R2.of1 (norm1_ok r hbl (x := .orow i n j o) hx)
  | fn f c => exact R2.of1 (norm1_ok r hbl (x := .fn f c) hx)
theorem norm3_ok {fr : Nat → V} {bl bl' : Nat → Option Blk} {keep : List Nat} (r : Rl nt w0 h0 fr bl a w h hd) (hbl : ∀ i, bl' i = if i ∈ keep then (bl i).bind (normB keep bl) else none) {v : Value} {x : V} (hx : R3 h hd bl v x) : R3 h hd bl' v (norm3 keep bl x) := by
  cases x with
  | tup vs =>
    obtain ⟨arr, rfl, h1, h2⟩ := hx
    refine ⟨arr, rfl, by simpa using h1, fun j x hx => ?_⟩
    rw [List.getElem?_map, Option.map_eq_some_iff] at hx
    obtain ⟨y, hy, rfl⟩ := hx
    exact norm2_ok r hbl (h2 j y hy)
  | agg cs => exact R3.of2 (norm2_ok r hbl (x := .agg cs) hx)
  | any => exact R3.of2 (norm2_ok r hbl (x := .any) hx)
  | d x => exact R3.of2 (norm2_ok r hbl (x := .d x) hx)
  | nil => exact R3.of2 (norm2_ok r hbl (x := .nil) hx)
  | ptr i o => exact R3.of2 (norm2_ok r hbl (x := .ptr i o) hx)
  | own i n => exact R3.of2 (norm2_ok r hbl (x := .own i n) hx)
  | orow i n j o => exact R3.of2 (norm2_ok r hbl (x := .orow i n j o) hx)
  | fn f c => exact R3.of2 (norm2_ok r hbl (x := .fn f c) hx)
theorem keepS_ok (r : Rl nt w0 h0 s.get s.blk a w h hd) (live keep : List Nat) : Rl nt w0 h0 (keepS live keep s).get (keepS live keep s).blk a w h hd := by
  have hg : ∀ t, (keepS live keep s).get t = if t ∈ live then norm3 keep s.blk (s.get t) else .any := fun t => lk_map _ _ _ _
  have hb : ∀ i, (keepS live keep s).blk i = if i ∈ keep then (s.blk i).bind (normB keep s.blk) else none := fun i => lk_map _ _ _ _
  have hcase : ∀ id b, (keepS live keep s).blk id = some b → ∃ b0, s.blk id = some b0 ∧ normB keep s.blk b0 = some b := by
    intro id b e
    rw [hb] at e
    split at e
    · rw [Option.bind_eq_some_iff] at e; exact e
    · cases e
  refine { tmps := r.tmps, defers := r.defers, below := r.below, hle := r.hle, h0le := r.h0le, hbase := r.hbase, frame := fun t => ?_, blk := fun id b e => ?_, sep := ?_ }
  · rw [hg]
    split
    · exact norm3_ok r hb (r.frame t)
    · trivial
  · obtain ⟨b0, e1, e2⟩ := hcase id b e
    have hB := r.blk id b0 e1
    cases b0 with
    | box cs =>
      simp only [normB, Option.some.injEq] at e2
      subst e2
      obtain ⟨g, arr, ee, q1, q2, q3, q4, q5, q6⟩ := hB
      refine ⟨g, arr, ee, q1, q2, q3, by simpa using q4, fun j x hx => ?_, q6⟩
      rw [List.getElem?_map, Option.map_eq_some_iff] at hx
      obtain ⟨y, hy, rfl⟩ := hx
      exact ⟨norm1_ok r hb (q5 j y hy).1, (q5 j y hy).2⟩
    | rows v' ee ss rows => simp only [normB, Option.some.injEq] at e2; subst e2; exact hB
    | froz v' rows => cases e2
    | fbox cs => cases e2
  · intro i j bi bj g hi hj li lj gi gj
    obtain ⟨b0, e1, e2⟩ := hcase i bi hi
    obtain ⟨b1, e3, e4⟩ := hcase j bj hj
    have l0 : b0.live = true := by cases b0 <;> first | rfl | cases e2
    have l1 : b1.live = true := by cases b1 <;> first | rfl | cases e4
    exact r.sep i j b0 b1 g e1 e3 l0 l1 gi gj

theorem nilRows (r : Rl nt w0 h0 s.get s.blk a w h hd) {id e size : Nat} (hs : s.blk id = none) (hz : 0 < size) : ∃ hd', Rl nt w0 h0 s.get (updB s.blk [(id, some (.rows 0 e size []))]) a w h hd' ∧ hd' id = .slice none 0 0 ∧ R1 h hd' (updB s.blk [(id, some (.rows 0 e size []))]) (.slice none 0 0) (.own id 0) := by
  obtain ⟨hd', hh, hr⟩ := r.newRows' (w' := w) none (fun d e => by cases e) id hs e size [] (.slice none 0 0) [] hz (by simp [maxLen]) ⟨rfl, rfl, rfl, Nat.le_refl _, fun _ _ _ => rfl⟩ (World.ownsRow_nil w _ e size) (fun i row hi => by simp at hi)
  exact ⟨hd', hr, hh, ⟨_, 0, updB_self _ _ _, rfl, Nat.le_refl _, rfl, fun _ => hh.symm⟩⟩

theorem mkT_ok (r : Rl nt w0 h0 s.get s.blk a w h hd) (p : Nat × Nat × Nat × Nat) : ∃ hd', Rl nt w0 h0 (mkT p s).get (mkT p s).blk a w h hd' := by
  obtain ⟨t, id, e, size⟩ := p
  unfold mkT
  split
  · rename_i h1 h2
    split
    · rename_i hz
      simp only at h1 h2 hz
      obtain ⟨hd', hr, hh, hv⟩ := nilRows r h2 hz (e := e)
      refine ⟨hd', ?_⟩
      have e1 : (⟨(t, .own id 0) :: s.fr, (id, some (.rows 0 e size [])) :: s.bl⟩ : St).get = updF s.get (some t) (.own id 0) := by
        funext t'
        simp only [St.get, lk, updF, Option.some.injEq]
        by_cases q : t' = t
        · rw [if_pos q, if_pos q.symm]
        · rw [if_neg q, if_neg fun x => q x.symm]
      have e2 : (⟨(t, .own id 0) :: s.fr, (id, some (.rows 0 e size [])) :: s.bl⟩ : St).blk = updB s.blk [(id, some (.rows 0 e size []))] := by
        funext i
        simp only [St.blk, lk, updB]
      simp only at e1 e2 ⊢
      rw [e1, e2]
      refine { hr with frame := fun t' => ?_ }
      simp only [updF, Option.some.injEq]
      by_cases q : t = t'
      · rw [if_pos q]
        have := r.frame t
        rw [h1] at this
        subst q
        rw [show a.tmps.getD t undef = _ from this]
        exact hv
      · rw [if_neg q]; exact hr.frame t'
    · exact ⟨hd, r⟩
  · exact ⟨hd, r⟩
theorem mkC_ok (r : Rl nt w0 h0 s.get s.blk a w h hd) (p : Nat × Nat × Nat × Nat × Nat) : ∃ hd', Rl nt w0 h0 (mkC p s).get (mkC p s).blk a w h hd' := by
  obtain ⟨b, c, id, e, size⟩ := p
  unfold mkC
  split
  · rename_i cs h1 h2
    split
    · rename_i h3
      split
      · rename_i hz
        simp only at h1 h2 h3 hz
        obtain ⟨hd', hr, hh, hv⟩ := nilRows r h2 hz (e := e)
        have hne : b ≠ id := fun q => by rw [q, h2] at h1; cases h1
        have hb' : updB s.blk [(id, some (.rows 0 e size []))] b = some (.box cs) := by rw [updB_ne _ _ hne]; exact h1
        obtain ⟨g, arr, ee, q1, q2, q3, q4, q5, q6⟩ := hr.blk b _ hb'
        have hself : arr.getD c undef = .slice none 0 0 := (q5 c _ h3).1
        obtain ⟨hd'', hr''⟩ := hr.setBox (w' := w) none (fun d e => by cases e) undef b cs (cs.set c (.own id 0)) hb' g arr arr ee q1 (by simpa using q4) (by
          intro j x hx
          rw [List.getElem?_set] at hx
          split at hx
          · rename_i hj
            subst hj
            split at hx
            · cases hx
              rw [hself]
              exact ⟨hv, rfl⟩
            · cases hx
          · exact q5 j x hx) q3 ⟨rfl, rfl, rfl, Nat.le_refl _, fun _ _ _ => rfl⟩
        refine ⟨hd'', ?_⟩
        have e2 : (⟨s.fr, (b, some (.box (cs.set c (.own id 0)))) :: (id, some (.rows 0 e size [])) :: s.bl⟩ : St).blk = updB (updB s.blk [(id, some (.rows 0 e size []))]) [(b, some (.box (cs.set c (.own id 0))))] := by
          funext i
          simp only [St.blk, lk, updB]
        simp only at e2 ⊢
        rw [e2]
        exact hr''
      · exact ⟨hd, r⟩
    · exact ⟨hd, r⟩
  · exact ⟨hd, r⟩
theorem lk_app {α : Type} : ∀ (l m : List (Nat × α)) (d : α) (t : Nat), lk (l ++ m) d t = lk l (lk m d t) t
  | [], m, d, t => rfl
  | (k, v) :: l, m, d, t => by simp only [List.cons_append, lk]; rw [lk_app l m d t]
theorem frT_ok (r : Rl nt w0 h0 s.get s.blk a w h hd) (t : Nat) : ∃ h', Rl nt w0 h0 (frT t s).get (frT t s).blk a w h' hd := by
  unfold frT
  split
  · rename_i d hd0
    refine ⟨hFz w h hd (fz0 s.blk (s.get t)), ?_⟩
    have r' := r.freeze _ (fz0_ok (bl := s.blk) (s.get t))
    have e1 : (⟨(t, .d d) :: s.fr, fz0 s.blk (s.get t) ++ s.bl⟩ : St).get = updF s.get (some t) (.d d) := by
      funext t'
      simp only [St.get, lk, updF, Option.some.injEq]
      by_cases q : t' = t
      · rw [if_pos q, if_pos q.symm]
      · rw [if_neg q, if_neg fun x => q x.symm]
    have e2 : (⟨(t, .d d) :: s.fr, fz0 s.blk (s.get t) ++ s.bl⟩ : St).blk = updB s.blk (fz0 s.blk (s.get t)) := by
      funext i
      simp only [St.blk, updB, lk_app]
    rw [e1, e2]
    refine { r' with frame := fun t' => ?_ }
    simp only [updF, Option.some.injEq]
    by_cases q : t = t'
    · rw [if_pos q]
      subst q
      have hx : R1 h hd s.blk (a.tmps.getD t undef) (s.get t) := by
        have := r.frame t
        cases hg : s.get t <;> rw [hg] at this hd0 <;> first | exact this | cases hd0
      have := toD0_ok r (fz0 s.blk (s.get t)) hx hd0 fun p hp => hp
      exact ⟨this.2, this.1⟩
    · rw [if_neg q]; exact r'.frame t'
  · exact ⟨h, r⟩
theorem frC_ok (r : Rl nt w0 h0 s.get s.blk a w h hd) (p : Nat × Nat) : ∃ h' hd', Rl nt w0 h0 (frC p s).get (frC p s).blk a w h' hd' := by
  obtain ⟨b, c⟩ := p
  unfold frC
  split
  · rename_i cs h1
    split
    · rename_i v h3
      split
      · rename_i d hd0
        simp only at h1 h3
        have r' := r.freeze _ (fz0_ok (bl := s.blk) v)
        have hb' : updB s.blk (fz0 s.blk v) b = some (.box cs) := by
          refine (updB_out ?_).trans h1
          intro hm
          obtain ⟨q, hq, rfl⟩ := List.mem_map.1 hm
          rcases fz0_ok (bl := s.blk) v q hq with ⟨v', e', s', rows, g1, _⟩ | ⟨cs', ds, g1, g2, _⟩
          · rw [h1] at g1; cases g1
          · have : q ∈ fz0 s.blk v := hq
            unfold fz0 at this
            split at this
            · split at this
              · simp only [List.mem_singleton] at this; rw [this] at g2; cases g2
              · cases this
            · cases this
        obtain ⟨g, arr, ee, q1, q2, q3, q4, q5, q6⟩ := r'.blk b _ hb'
        obtain ⟨_, arr0, ee0, z1, z2, z3, z4, z5, z6⟩ := r.blk b _ h1
        rw [q1] at z1; cases z1
        rw [q3] at z3; cases z3
        have hval := toD0_ok r (fz0 s.blk v) (z5 c v h3).1 hd0 fun p hp => hp
        obtain ⟨hd'', hr''⟩ := r'.setBox (w' := w) none (fun d e => by cases e) undef b cs (cs.set c (.d d)) hb' g arr arr ee q1 (by simpa using q4) (by
          intro j x hx
          rw [List.getElem?_set] at hx
          split at hx
          · rename_i hj
            subst hj
            split at hx
            · cases hx
              exact ⟨⟨hval.2, hval.1⟩, (z5 c v h3).2⟩
            · cases hx
          · exact q5 j x hx) q3 ⟨rfl, rfl, rfl, Nat.le_refl _, fun _ _ _ => rfl⟩
        refine ⟨hFz w h hd (fz0 s.blk v), hd'', ?_⟩
        have e2 : (⟨s.fr, (b, some (.box (cs.set c (.d d)))) :: (fz0 s.blk v ++ s.bl)⟩ : St).blk = updB (updB s.blk (fz0 s.blk v)) [(b, some (.box (cs.set c (.d d))))] := by
          funext i
          simp only [St.blk, lk, updB, lk_app]
        simp only at e2 ⊢
        rw [e2]
        exact hr''
      · exact ⟨h, hd, r⟩
    · exact ⟨h, hd, r⟩
  · exact ⟨h, hd, r⟩
theorem foldl_ok {α : Type} (f : α → St → St) (hf : ∀ (x : α) (s : St) (h : Hp) (hd : Nat → Value), Rl nt w0 h0 s.get s.blk a w h hd → ∃ h' hd', Rl nt w0 h0 (f x s).get (f x s).blk a w h' hd') : ∀ (l : List α) (s : St) (h : Hp) (hd : Nat → Value), Rl nt w0 h0 s.get s.blk a w h hd → ∃ h' hd', Rl nt w0 h0 (l.foldl (fun s x => f x s) s).get (l.foldl (fun s x => f x s) s).blk a w h' hd'
  | [], s, h, hd, r => ⟨h, hd, r⟩
  | x :: l, s, h, hd, r => by
    obtain ⟨h', hd', r'⟩ := hf x s h hd r
    exact foldl_ok f hf l (f x s) h' hd' r'
theorem mask_ok (r : Rl nt w0 h0 s.get s.blk a w h hd) (m : Mask) : ∃ h' hd', Rl nt w0 h0 (m.app s).get (m.app s).blk a w h' hd' := by
  obtain ⟨h1, hd1, r1⟩ := foldl_ok mkT (fun x s h hd r => ⟨h, mkT_ok r x⟩) m.ownT s h hd r
  obtain ⟨h2, hd2, r2⟩ := foldl_ok mkC (fun x s h hd r => ⟨h, mkC_ok r x⟩) m.ownC _ h1 hd1 r1
  obtain ⟨h3, hd3, r3⟩ := foldl_ok frT (fun x s h hd r => let ⟨h', q⟩ := frT_ok r x; ⟨h', hd, q⟩) m.fzT _ h2 hd2 r2
  obtain ⟨h4, hd4, r4⟩ := foldl_ok frC (fun x s h hd r => frC_ok r x) m.fzC _ h3 hd3 r3
  exact ⟨h4, hd4, keepS_ok r4 m.live m.keep⟩
end

/-! ### code -/
inductive Ex where
  | normal | exit (id : Nat) | ret
def Ex.go : Ex → Exit
  | .normal => .normal
  | .exit id => .exit id
  | .ret => .ret
def loopN (f : St → Option (Ex × St)) : Nat → St → Option (Ex × St)
  | 0, _ => none
  | n + 1, s => match f s with
    | some (.normal, s') => loopN f n s'
    | r => r
def evalN (C : Nat → List D → Option D) (n : Nat) : SCode → St → Option (Ex × St)
  | .skip, s => some (.normal, s)
  | .region ops draw, s => match runRegion C ops draw s with
    | some s' => some (.normal, s')
    | none => none
  | .seq a b, s => match evalN C n a s with
    | some (.normal, s') => evalN C n b s'
    | r => r
  | .cond c a b, s => match evo s.get c with
    | .d (.bool true) => evalN C n a s
    | .d (.bool false) => evalN C n b s
    | _ => none
  | .block id a, s => match evalN C n a s with
    | some (.exit id', s') => if id' = id then some (.normal, s') else some (.exit id', s')
    | r => r
  | .loop a, s => loopN (evalN C n a) n s
  | .exit id, s => some (.exit id, s)
  | .ret, s => some (.ret, s)
  | .pre m a, s => evalN C n a (m.app s)
  | .post a m, s => match evalN C n a s with
    | some (.normal, s') => some (.normal, m.app s')
    | r => r

/-- a loop that ends -/
theorem wp_loopN {P : Program} {c : Code} {Q : Exit → Act → World → Prop} (G : Nat → Act → World → Prop) (zero : ∀ a w, ¬ G 0 a w) (round : ∀ k a w, G (k + 1) a w → c.wp P (Exit.then (fun a' w' => G k a' w') Q) a w) :
    ∀ k a w, G k a w → (Code.loop c).wp P Q a w := by
  intro k a w hG
  have least : ∀ a w, (∃ k, G k a w) → ∃ k, G k a w ∧ ∀ j, G j a w → k ≤ j := by
    intro a w ⟨k, hk⟩
    induction k using Nat.strongRecOn with
    | _ k ih =>
      by_cases h : ∃ j, j < k ∧ G j a w
      · obtain ⟨j, hj, hg⟩ := h; exact ih j hj hg
      · exact ⟨k, hk, fun j hj => Nat.le_of_not_lt fun hlt => h ⟨j, hlt, hj⟩⟩
  refine wp_loop (fun a w => ∃ k, G k a w) (fun a w => @dite _ (∃ k, G k a w) (Classical.propDecidable _) (fun h => (least a w h).choose) (fun _ => 0)) ⟨k, hG⟩ ?_
  intro a w hI
  have hsp := (least a w hI).choose_spec
  generalize hk0 : (least a w hI).choose = k0 at hsp
  obtain ⟨g1, g2⟩ := hsp
  cases k0 with
  | zero => exact absurd g1 (zero a w)
  | succ k1 =>
    refine wp_mono (round k1 a w g1) fun e a' w' hq => ?_
    cases e with
    | normal =>
      refine ⟨⟨k1, hq⟩, ?_⟩
      have hI' : ∃ k, G k a' w' := ⟨k1, hq⟩
      have h2 := (least a' w' hI').choose_spec.2 k1 hq
      simp only [dif_pos hI', dif_pos hI, hk0]
      omega
    | _ => exact hq

section
variable {P : Program} {nt : Nat} {w0 : World} {h0 : Hp} {C : Nat → List D → Option D}
theorem code_ok (hC : ∀ f ds x, C f ds = some x → Sound P f ds x) (hm : P.follows .mixedOrders = true) (n : Nat) : ∀ (sc : SCode) (c : Code) (s s' : St) (ex : Ex) (a : Act) (w : World) (h : Hp) (hd : Nat → Value) (Q : Exit → Act → World → Prop),
    lowC P nt c = some sc.bare → evalN C n sc s = some (ex, s') → Rl nt w0 h0 s.get s.blk a w h hd → (∀ a' w' h' hd', Rl nt w0 h0 s'.get s'.blk a' w' h' hd' → Q ex.go a' w') → c.wp P Q a w := by
  intro sc
  induction sc with
  | skip =>
    intro c s s' ex a w h hd Q hl he r hQ
    cases c <;> simp only [lowC, SCode.bare] at hl
    case skip => simp only [evalN, Option.some.injEq, Prod.mk.injEq] at he; obtain ⟨rfl, rfl⟩ := he; exact wp_skip (hQ _ _ _ _ r)
    case region => split at hl <;> first | (cases hl; done) | skip; split at hl <;> first | (cases hl; done) | skip; split at hl <;> cases hl
    case seq => split at hl <;> cases hl
    case cond => split at hl <;> cases hl
    case block => rw [Option.map_eq_some_iff] at hl; obtain ⟨_, _, e⟩ := hl; cases e
    case loop => rw [Option.map_eq_some_iff] at hl; obtain ⟨_, _, e⟩ := hl; cases e
    all_goals cases hl
  | region ops draw =>
    intro c s s' ex a w h hd Q hl he r hQ
    cases c <;> simp only [lowC, SCode.bare] at hl
    case region id rops dr =>
      split at hl
      · cases hl
      · rename_i l hlow
        simp only [evalN] at he
        split at he
        · rename_i s1 h1
          cases he
          split at hl
          · rename_i hdr
            split at hl
            · rename_i hok
              cases hl
              subst hdr
              exact region_ok hC hm hlow (draw := true) (by simp [hok]) h1 r hQ
            · cases hl
          · rename_i hdr
            cases hl
            have : dr = false := by simpa using hdr
            subst this
            exact region_ok hC hm hlow (draw := false) (by simp) h1 r hQ
        · cases he
    case seq => split at hl <;> cases hl
    case cond => split at hl <;> cases hl
    case block => rw [Option.map_eq_some_iff] at hl; obtain ⟨_, _, e⟩ := hl; cases e
    case loop => rw [Option.map_eq_some_iff] at hl; obtain ⟨_, _, e⟩ := hl; cases e
    all_goals cases hl
  | seq x y ihx ihy =>
    intro c s s' ex a w h hd Q hl he r hQ
    cases c <;> simp only [lowC, SCode.bare] at hl
    case region => split at hl <;> first | (cases hl; done) | skip; split at hl <;> first | (cases hl; done) | skip; split at hl <;> cases hl
    case seq ca cb =>
      split at hl
      · rename_i l1 l2 h1 h2
        cases hl
        refine wp_seq ?_
        simp only [evalN] at he
        split at he
        · rename_i s1 he1
          exact ihx ca s s1 .normal a w h hd _ h1 he1 r fun a' w' h' hd' r' => ihy cb s1 s' ex a' w' h' hd' Q h2 he r' hQ
        · rename_i hne
          refine ihx ca s s' ex a w h hd _ h1 he r fun a' w' h' hd' r' => ?_
          cases ex with
          | normal => exact absurd he (hne _)
          | exit id => exact hQ _ _ _ _ r'
          | ret => exact hQ _ _ _ _ r'
      · cases hl
    case cond => split at hl <;> cases hl
    case block => rw [Option.map_eq_some_iff] at hl; obtain ⟨_, _, e⟩ := hl; cases e
    case loop => rw [Option.map_eq_some_iff] at hl; obtain ⟨_, _, e⟩ := hl; cases e
    all_goals cases hl
  | cond c x y ihx ihy =>
    intro cc s s' ex a w h hd Q hl he r hQ
    cases cc <;> simp only [lowC, SCode.bare] at hl
    case region => split at hl <;> first | (cases hl; done) | skip; split at hl <;> first | (cases hl; done) | skip; split at hl <;> cases hl
    case seq => split at hl <;> cases hl
    case cond co ca cb =>
      split at hl
      · rename_i l0 l1 l2 h1 h2 h3
        cases hl
        have hc := lowX_ok r.frame h1
        simp only [evalN] at he
        split at he
        · rename_i hb
          rw [hb] at hc
          exact wp_cond_true (inv_bool hc) (ihx ca s s' ex a w h hd Q h2 he r hQ)
        · rename_i hb
          rw [hb] at hc
          exact wp_cond_false (inv_bool hc) (ihy cb s s' ex a w h hd Q h3 he r hQ)
        · cases he
      · cases hl
    case block => rw [Option.map_eq_some_iff] at hl; obtain ⟨_, _, e⟩ := hl; cases e
    case loop => rw [Option.map_eq_some_iff] at hl; obtain ⟨_, _, e⟩ := hl; cases e
    all_goals cases hl
  | block id x ih =>
    intro c s s' ex a w h hd Q hl he r hQ
    cases c <;> simp only [lowC, SCode.bare] at hl
    case region => split at hl <;> first | (cases hl; done) | skip; split at hl <;> first | (cases hl; done) | skip; split at hl <;> cases hl
    case seq => split at hl <;> cases hl
    case cond => split at hl <;> cases hl
    case block id' ca =>
      rw [Option.map_eq_some_iff] at hl
      obtain ⟨l1, h1, e⟩ := hl
      cases e
      refine wp_block ?_
      simp only [evalN] at he
      split at he
      · rename_i id'' s1 he1
        refine ih ca s s1 (.exit id'') a w h hd _ h1 he1 r fun a' w' h' hd' r' => ?_
        simp only [Ex.go, Exit.inBlock]
        split at he
        · rename_i hid
          cases he
          rw [if_pos hid]
          exact hQ _ _ _ _ r'
        · rename_i hid
          cases he
          rw [if_neg hid]
          exact hQ _ _ _ _ r'
      · rename_i hne
        refine ih ca s s' ex a w h hd _ h1 he r fun a' w' h' hd' r' => ?_
        cases ex with
        | normal => exact hQ _ _ _ _ r'
        | exit id => exact absurd he (hne _ _)
        | ret => exact hQ _ _ _ _ r'
    case loop => rw [Option.map_eq_some_iff] at hl; obtain ⟨_, _, e⟩ := hl; cases e
    all_goals cases hl
  | loop x ih =>
    intro c s s' ex a w h hd Q hl he r hQ
    cases c <;> simp only [lowC, SCode.bare] at hl
    case region => split at hl <;> first | (cases hl; done) | skip; split at hl <;> first | (cases hl; done) | skip; split at hl <;> cases hl
    case seq => split at hl <;> cases hl
    case cond => split at hl <;> cases hl
    case block => rw [Option.map_eq_some_iff] at hl; obtain ⟨_, _, e⟩ := hl; cases e
    case loop ca =>
      rw [Option.map_eq_some_iff] at hl
      obtain ⟨l1, h1, e⟩ := hl
      cases e
      simp only [evalN] at he
      refine wp_loopN (fun k a w => ∃ s h hd, loopN (evalN C n x) k s = some (ex, s') ∧ Rl nt w0 h0 s.get s.blk a w h hd) (fun a w ⟨s, h, hd, q, _⟩ => by simp [loopN] at q) ?_ n a w ⟨s, h, hd, he, r⟩
      rintro k a w ⟨s, h, hd, q, r⟩
      simp only [loopN] at q
      split at q
      · rename_i s1 he1
        exact ih ca s s1 .normal a w h hd _ h1 he1 r fun a' w' h' hd' r' => ⟨s1, h', hd', q, r'⟩
      · rename_i hne
        refine ih ca s s' ex a w h hd _ h1 q r fun a' w' h' hd' r' => ?_
        cases ex with
        | normal => exact absurd q (hne _)
        | exit id => exact hQ _ _ _ _ r'
        | ret => exact hQ _ _ _ _ r'
    all_goals cases hl
  | exit id =>
    intro c s s' ex a w h hd Q hl he r hQ
    cases c <;> simp only [lowC, SCode.bare] at hl
    case region => split at hl <;> first | (cases hl; done) | skip; split at hl <;> first | (cases hl; done) | skip; split at hl <;> cases hl
    case seq => split at hl <;> cases hl
    case cond => split at hl <;> cases hl
    case block => rw [Option.map_eq_some_iff] at hl; obtain ⟨_, _, e⟩ := hl; cases e
    case loop => rw [Option.map_eq_some_iff] at hl; obtain ⟨_, _, e⟩ := hl; cases e
    case exit => cases hl; simp only [evalN, Option.some.injEq, Prod.mk.injEq] at he; obtain ⟨rfl, rfl⟩ := he; exact wp_exit (hQ _ _ _ _ r)
    all_goals cases hl
  | ret =>
    intro c s s' ex a w h hd Q hl he r hQ
    cases c <;> simp only [lowC, SCode.bare] at hl
    case region => split at hl <;> first | (cases hl; done) | skip; split at hl <;> first | (cases hl; done) | skip; split at hl <;> cases hl
    case seq => split at hl <;> cases hl
    case cond => split at hl <;> cases hl
    case block => rw [Option.map_eq_some_iff] at hl; obtain ⟨_, _, e⟩ := hl; cases e
    case loop => rw [Option.map_eq_some_iff] at hl; obtain ⟨_, _, e⟩ := hl; cases e
    case ret => simp only [evalN, Option.some.injEq, Prod.mk.injEq] at he; obtain ⟨rfl, rfl⟩ := he; exact wp_ret (hQ _ _ _ _ r)
    all_goals cases hl
  | pre m x ih =>
    intro c s s' ex a w h hd Q hl he r hQ
    simp only [SCode.bare] at hl
    simp only [evalN] at he
    obtain ⟨h', hd', r'⟩ := mask_ok r m
    exact ih c _ s' ex a w h' hd' Q hl he r' hQ
  | post x m ih =>
    intro c s s' ex a w h hd Q hl he r hQ
    simp only [SCode.bare] at hl
    simp only [evalN] at he
    split at he
    · rename_i s1 he1
      cases he
      refine ih c s s1 .normal a w h hd Q hl he1 r fun a' w' h' hd' r' => ?_
      obtain ⟨h'', hd'', r''⟩ := mask_ok r' m
      exact hQ _ _ _ _ r''
    · rename_i hne
      exact ih c s s' ex a w h hd Q hl he r hQ
end
end Vm
end Go.Proofs.Ytdjfaepokfdihaa
