/- Regions: one operation behind the other, in whichever order the model draws. -/
import Derived.Test.YtdjfaepokfdihaaVmOp
set_option linter.unusedVariables false
namespace Go.Proofs.Ytdjfaepokfdihaa
namespace Vm
open Go.RowKit

/-! ### what an operation looks at -/
def V.ids1 : V → List Nat
  | .ptr id _ | .own id _ | .orow id _ _ _ => [id]
  | _ => []
def V.ids : V → List Nat
  | .agg cs => cs.flatMap V.ids1
  | v => v.ids1
/-- a box lets its cells be seen -/
def V.dids1 (bl : Nat → Option Blk) : V → List Nat
  | .ptr id _ => id :: (match bl id with | some (.box cs) => cs.flatMap V.ids1 | _ => [])
  | v => v.ids1
def V.dids (bl : Nat → Option Blk) : V → List Nat
  | .agg cs => cs.flatMap (V.dids1 bl)
  | v => v.dids1 bl
def SOp.opds : SOp → List Opd
  | .bytes x | .move x | .box x | .load _ _ x | .nilCheck x | .un _ x | .conv _ x | .fieldAddr _ x | .field _ _ _ x | .len x | .lenS x | .extract x _ => [x]
  | .alloc _ | .fail => []
  | .pick c a b => [c, a, b]
  | .build _ ps => ps.map fun p => p.2.2
  | .buildSlice _ _ _ _ ps => ps.map fun p => p.2
  | .store _ x v => [x, v]
  | .bin _ _ x y | .eqS _ _ x y | .indexAddr _ x y | .index x y | .append _ _ _ x y | .makeSlice _ _ _ _ x y => [x, y]
  | .slice _ x lo hi | .strSlice x lo hi => x :: (lo.toList ++ hi.toList)
  | .max l | .min l => l
  | .call _ args => args
  | .mkfn _ caps => caps
  | .callv g args => g :: args
/-- whose blocks are looked at -/
def SOp.peeks : SOp → List Opd
  | .load _ _ x | .nilCheck x | .fieldAddr _ x | .len x | .slice _ x _ _ | .store _ x _ | .indexAddr _ x _ => [x]
  | .append _ _ _ x y => [x, y]
  | _ => []
/-- whose blocks are looked at, and the blocks of their boxes' cells -/
def SOp.deeps : SOp → List Opd
  | .store _ _ v => [v]
  | .buildSlice _ _ _ _ ps => ps.map fun p => p.2
  | .call _ args => args
  | .mkfn _ caps => caps
  | .callv _ args => args
  | _ => []
def SOp.new : SOp → Bool
  | .alloc _ | .box _ | .buildSlice _ _ _ _ _ | .append _ _ _ _ _ | .makeSlice _ _ _ _ _ _ => true
  | _ => false

section
variable {ev ev' : Opd → V} {bl bl' : Nat → Option Blk}
theorem toD0_local {v : V} (h : ∀ id ∈ v.ids1, bl id = bl' id) : toD0 bl v = toD0 bl' v := by
  cases v with
  | own id ver => simp only [toD0]; rw [h id (by simp [V.ids1])]
  | ptr id off => simp only [toD0]; rw [h id (by simp [V.ids1])]
  | _ => rfl
theorem fz0_local {v : V} (h : ∀ id ∈ v.ids1, bl id = bl' id) : fz0 bl v = fz0 bl' v := by
  cases v with
  | own id ver => simp only [fz0]; rw [h id (by simp [V.ids1])]
  | _ => rfl
theorem mapM'_congr {α β : Type} {f g : α → Option β} : ∀ {l : List α}, (∀ x ∈ l, f x = g x) → mapM' f l = mapM' g l
  | [], _ => rfl
  | x :: l, h => by simp only [mapM']; rw [h x (by simp), mapM'_congr (fun y hy => h y (by simp [hy]))]
theorem flatMap_congr' {α β : Type} {f g : α → List β} : ∀ {l : List α}, (∀ x ∈ l, f x = g x) → l.flatMap f = l.flatMap g
  | [], _ => rfl
  | x :: l, h => by simp only [List.flatMap_cons]; rw [h x (by simp), flatMap_congr' (fun y hy => h y (by simp [hy]))]
theorem toD1_local {v : V} (h : ∀ id ∈ v.dids1 bl, bl id = bl' id) : toD1 bl v = toD1 bl' v := by
  cases v with
  | ptr id off =>
    have e := h id (by simp [V.dids1])
    simp only [toD1]
    rw [← e]
    cases hb : bl id with
    | none => rfl
    | some b =>
      cases b with
      | box cs =>
        simp only
        rw [mapM'_congr fun x hx => toD0_local fun i hi => h i ?_]
        simp only [V.dids1, hb]
        exact List.mem_cons_of_mem _ (List.mem_flatMap.2 ⟨x, hx, hi⟩)
      | _ => rfl
  | _ => simp only [toD1]; exact toD0_local (by simpa only [V.dids1] using h)
theorem fz1_local {v : V} (h : ∀ id ∈ v.dids1 bl, bl id = bl' id) : fz1 bl v = fz1 bl' v := by
  cases v with
  | ptr id off =>
    have e := h id (by simp [V.dids1])
    simp only [fz1]
    rw [← e]
    cases hb : bl id with
    | none => rfl
    | some b =>
      cases b with
      | box cs =>
        have hl : ∀ x ∈ cs, ∀ i ∈ x.ids1, bl i = bl' i := fun x hx i hi => h i (by
          simp only [V.dids1, hb]
          exact List.mem_cons_of_mem _ (List.mem_flatMap.2 ⟨x, hx, hi⟩))
        simp only
        rw [mapM'_congr fun x hx => toD0_local (hl x hx), flatMap_congr' fun x hx => fz0_local (hl x hx)]
      | _ => rfl
  | _ => simp only [fz1]; exact fz0_local (by simpa only [V.dids1] using h)
theorem dids1_local {v : V} (h : ∀ id ∈ v.ids1, bl id = bl' id) : v.dids1 bl = v.dids1 bl' := by
  cases v with
  | ptr id off => simp only [V.dids1]; rw [h id (by simp [V.ids1])]
  | _ => rfl
theorem ids1_dids1 {v : V} : ∀ id ∈ v.ids1, id ∈ v.dids1 bl := by
  intro id h
  cases v with
  | ptr i off => simp only [V.ids1, List.mem_singleton] at h; subst h; simp [V.dids1]
  | _ => simp only [V.dids1]; exact h
theorem rowsOf_local {v : V} (h : ∀ id ∈ v.ids1, bl id = bl' id) : rowsOf bl v = rowsOf bl' v := by
  cases v with
  | d x => cases x <;> rfl
  | own id ver => simp only [rowsOf]; rw [h id (by simp [V.ids1])]
  | _ => rfl
theorem sliceV_local {v : V} (h : ∀ id ∈ v.ids1, bl id = bl' id) (size : Nat) (lo hi : Option V) : sliceV bl size v lo hi = sliceV bl' size v lo hi := by
  cases v with
  | own id ver =>
    have e := h id (by simp [V.ids1])
    rw [sliceV_eq, sliceV_eq]
    cases lo with
    | some l => (dsimp only; rw [rowsOf_local h, fz1_local (v := .own id ver) h])
    | none => cases hi with
      | none => (dsimp only; rw [rowsOf_local h, fz1_local (v := .own id ver) h])
      | some x => cases x with
        | d y => cases y with
          | int k n => dsimp only; rw [e]
          | _ => (dsimp only; rw [rowsOf_local h, fz1_local (v := .own id ver) h])
        | _ => (dsimp only; rw [rowsOf_local h, fz1_local (v := .own id ver) h])
  | d x => cases x <;> rfl
  | _ => rfl
theorem ids_sub {v : V} : ∀ id ∈ v.ids1, id ∈ v.ids := by
  intro id h
  cases v <;> first | exact h | simp [V.ids1] at h
theorem dids_sub {v : V} : ∀ id ∈ v.dids1 bl, id ∈ v.dids bl := by
  intro id h
  cases v <;> first | exact h | simp [V.dids1, V.ids1] at h
theorem dids_local {v : V} (h : ∀ id ∈ v.ids, bl id = bl' id) : v.dids bl = v.dids bl' := by
  cases v with
  | agg cs => exact flatMap_congr' fun x hx => dids1_local fun i hi => h i (List.mem_flatMap.2 ⟨x, hx, hi⟩)
  | _ => simp only [V.dids]; exact dids1_local (by simpa only [V.ids] using h)
theorem ids_dids {v : V} : ∀ id ∈ v.ids, id ∈ v.dids bl := by
  intro id h
  cases v with
  | agg cs =>
    obtain ⟨x, hx, hi⟩ := List.mem_flatMap.1 h
    exact List.mem_flatMap.2 ⟨x, hx, ids1_dids1 id hi⟩
  | _ => simp only [V.dids]; exact ids1_dids1 id (by simpa only [V.ids] using h)
theorem cells_local {v : V} (h : ∀ id ∈ v.dids bl, bl id = bl' id) : mapM' (toD1 bl) v.cells = mapM' (toD1 bl') v.cells := by
  refine mapM'_congr fun x hx => toD1_local fun id hid => h id ?_
  cases v with
  | agg cs => exact List.mem_flatMap.2 ⟨x, hx, hid⟩
  | _ => simp only [V.cells, List.mem_singleton] at hx; subst hx; exact dids_sub id hid
theorem toD2_local {v : V} (h : ∀ id ∈ v.dids bl, bl id = bl' id) : toD2 bl v = toD2 bl' v := by
  cases v with
  | agg cs =>
    simp only [toD2]
    rw [mapM'_congr fun x hx => toD1_local fun id hid => h id (List.mem_flatMap.2 ⟨x, hx, hid⟩)]
  | _ => simp only [toD2]; exact toD1_local fun id hid => h id (dids_sub id hid)
theorem fz2_local {v : V} (h : ∀ id ∈ v.dids bl, bl id = bl' id) : fz2 bl v = fz2 bl' v := by
  cases v with
  | agg cs => exact flatMap_congr' fun x hx => fz1_local fun id hid => h id (List.mem_flatMap.2 ⟨x, hx, hid⟩)
  | _ => simp only [fz2]; exact fz1_local fun id hid => h id (dids_sub id hid)
theorem fillRows_local (size : Nat) : ∀ (ps : List (Nat × V)) (rs : List (List D)), (∀ p ∈ ps, ∀ id ∈ p.2.dids bl, bl id = bl' id) → fillRows bl size rs ps = fillRows bl' size rs ps
  | [], rs, _ => rfl
  | (i, v) :: r, rs, h => by
    simp only [fillRows]
    rw [cells_local (h (i, v) (by simp))]
    cases mapM' (toD1 bl') v.cells with
    | none => rfl
    | some row => simp only; rw [fillRows_local size r _ fun p hp => h p (by simp [hp])]
def SOp.isCall : SOp → Bool
  | .call _ _ | .callv _ _ => true
  | _ => false
theorem freeB_local : ∀ {l : List (Nat × Option Blk)}, (∀ p ∈ l, bl p.1 = bl' p.1) → freeB bl l = freeB bl' l
  | [], _ => rfl
  | (i, b) :: l, h => by
    simp only [freeB]
    rw [h (i, b) (by simp), freeB_local fun p hp => h p (by simp [hp])]
theorem callRes_local {site : Nat} {fz wr : List (Nat × Option Blk)} {r : D} {v : V} (h : ∀ p ∈ wr, bl p.1 = bl' p.1) (hs : callRes site bl fz r = some (v, wr)) : callRes site bl' fz r = some (v, wr) := by
  by_cases hx : ∃ y es rs, r = .own y es rs
  · obtain ⟨y, es, rs, rfl⟩ := hx
    simp only [callRes] at hs ⊢
    split at hs
    · rename_i hf
      cases hs
      rw [← freeB_local (bl := bl) fun p hp => h p (List.mem_append.2 (.inl hp)), if_pos hf]
    · cases hs
  · have hx : ∀ y es rs, r ≠ .own y es rs := fun y es rs e => hx ⟨y, es, rs, e⟩
    rw [callRes_of hx] at hs ⊢
    exact hs
/-- an operation sees its operands and their blocks, and its site -/
theorem aop_local {C : Nat → List D → Option D} {site : Nat} (so : SOp) (h5 : so.isCall = true → ∀ fz r, callRes site bl fz r = callRes site bl' fz r) (h1 : ∀ x ∈ so.opds, ev x = ev' x) (h2 : ∀ x ∈ so.peeks, ∀ id ∈ (ev x).ids, bl id = bl' id) (h2' : ∀ x ∈ so.deeps, ∀ id ∈ (ev x).dids bl, bl id = bl' id) (h3 : so.new = true → bl site = bl' site) : aop C site ev bl so = aop C site ev' bl' so := by
  have one : ∀ x ∈ so.peeks, ∀ id ∈ (ev x).ids1, bl id = bl' id := fun x hx id hid => h2 x hx id (ids_sub id hid)
  cases so with
  | fail => rfl
  | move x => simp only [aop]; rw [h1 x (by simp [SOp.opds])]
  | pick c a b => simp only [aop]; rw [h1 c (by simp [SOp.opds]), h1 a (by simp [SOp.opds]), h1 b (by simp [SOp.opds])]
  | alloc z => simp only [aop]; rw [h3 rfl]
  | box x => simp only [aop]; rw [h3 rfl, h1 x (by simp [SOp.opds])]
  | build z ps =>
    simp only [aop]
    have : (ps.map fun (x : Nat × Nat × Opd) => (x.1, x.2.1, ev x.2.2)) = ps.map fun x => (x.1, x.2.1, ev' x.2.2) := List.map_congr_left fun p hp => by rw [h1 p.2.2 (List.mem_map.2 ⟨p, hp, rfl⟩)]
    exact congrArg (fun q => (fillV z q).map fun cs => (V.agg cs, ([] : List (Nat × Option Blk)))) this
  | buildSlice e size z n ps =>
    simp only [aop]
    have e1 : (ps.map fun (x : Nat × Opd) => (x.1, ev x.2)) = ps.map fun x => (x.1, ev' x.2) := List.map_congr_left fun p hp => by rw [h1 p.2 (List.mem_map.2 ⟨p, hp, rfl⟩)]
    have e2 : fillRows bl size (List.replicate n z) (ps.map fun (x : Nat × Opd) => (x.1, ev x.2)) = fillRows bl' size (List.replicate n z) (ps.map fun (x : Nat × Opd) => (x.1, ev x.2)) := fillRows_local size _ _ fun p hp id hid => by
      obtain ⟨q, hq, rfl⟩ := List.mem_map.1 hp
      exact h2' q.2 (List.mem_map.2 ⟨q, hq, rfl⟩) id hid
    have e3 : (ps.flatMap fun (x : Nat × Opd) => fz2 bl (ev x.2)) = ps.flatMap fun x => fz2 bl' (ev' x.2) := flatMap_congr' fun p hp => by
      rw [fz2_local (h2' p.2 (List.mem_map.2 ⟨p, hp, rfl⟩)), h1 p.2 (List.mem_map.2 ⟨p, hp, rfl⟩)]
    rw [h3 rfl]
    have e4 := e2.trans (congrArg (fillRows bl' size (List.replicate n z)) e1)
    cases bl' site with
    | some _ => rfl
    | none =>
      show (match fillRows bl size (List.replicate n z) (ps.map fun (x : Nat × Opd) => (x.1, ev x.2)) with
        | some rows => some (V.own site 0, (site, some (Blk.rows 0 e size rows)) :: ps.flatMap fun (x : Nat × Opd) => fz2 bl (ev x.2))
        | none => none) = _
      rw [e4, e3]
      rfl
  | load size g x =>
    have e1 := h1 x (by simp [SOp.opds])
    have e2 := one x (by simp [SOp.peeks])
    simp only [aop]
    rw [← e1]
    cases hx : ev x <;> first | rfl | (rename_i y; cases y <;> rfl) | (dsimp only; rw [e2 _ (by rw [hx]; simp [V.ids1])])
  | store size x v =>
    have e1 := h1 x (by simp [SOp.opds])
    have e2 := one x (by simp [SOp.peeks])
    have e3 := h1 v (by simp [SOp.opds])
    have e4 := h2' v (by simp [SOp.deeps])
    simp only [aop]
    rw [← e1, ← e3, cells_local e4, fz2_local e4]
    cases hx : ev x <;> first | rfl | (rename_i y; cases y <;> rfl) | (dsimp only; rw [e2 _ (by rw [hx]; simp [V.ids1])])
  | nilCheck x =>
    have e1 := h1 x (by simp [SOp.opds])
    have e2 := one x (by simp [SOp.peeks])
    simp only [aop]
    rw [← e1]
    cases hx : ev x <;> first | rfl | (rename_i y; cases y <;> rfl) | (dsimp only; rw [e2 _ (by rw [hx]; simp [V.ids1])])
  | bin c op x y => simp only [aop]; rw [h1 x (by simp [SOp.opds]), h1 y (by simp [SOp.opds])]
  | eqS ks neg x y => simp only [aop]; rw [h1 x (by simp [SOp.opds]), h1 y (by simp [SOp.opds])]
  | un op x => simp only [aop]; rw [h1 x (by simp [SOp.opds])]
  | conv k x => simp only [aop]; rw [h1 x (by simp [SOp.opds])]
  | slice size x lo hi =>
    have e1 := h1 x (by simp [SOp.opds])
    have e2 := one x (by simp [SOp.peeks])
    have e3 : lo.map ev = lo.map ev' := by cases lo with | none => rfl | some y => simp [h1 y (by simp [SOp.opds])]
    have e4 : hi.map ev = hi.map ev' := by cases hi with | none => rfl | some y => simp [h1 y (by simp [SOp.opds])]
    simp only [aop]
    rw [← e1, ← e3, ← e4, sliceV_local e2]
  | strSlice x lo hi =>
    have e1 := h1 x (by simp [SOp.opds])
    have e3 : lo.map ev = lo.map ev' := by cases lo with | none => rfl | some y => simp [h1 y (by simp [SOp.opds])]
    have e4 : hi.map ev = hi.map ev' := by cases hi with | none => rfl | some y => simp [h1 y (by simp [SOp.opds])]
    simp only [aop]
    rw [← e1, ← e3, ← e4]
  | fieldAddr off x =>
    have e1 := h1 x (by simp [SOp.opds])
    have e2 := one x (by simp [SOp.peeks])
    simp only [aop]
    rw [← e1]
    cases hx : ev x <;> first | rfl | (rename_i y; cases y <;> rfl) | (dsimp only; rw [e2 _ (by rw [hx]; simp [V.ids1])])
  | field off size g x => simp only [aop]; rw [h1 x (by simp [SOp.opds])]
  | indexAddr size x i =>
    have e1 := h1 x (by simp [SOp.opds])
    have e2 := one x (by simp [SOp.peeks])
    have e3 := h1 i (by simp [SOp.opds])
    simp only [aop]
    rw [← e1, ← e3]
    cases hx : ev x <;> first | rfl | (rename_i y; cases y <;> rfl) | (dsimp only; rw [e2 _ (by rw [hx]; simp [V.ids1])])
  | index x i => simp only [aop]; rw [h1 x (by simp [SOp.opds]), h1 i (by simp [SOp.opds])]
  | len x =>
    simp only [aop]; rw [rowsOf_local (one x (by simp [SOp.peeks])), h1 x (by simp [SOp.opds])]
  | lenS x => simp only [aop]; rw [h1 x (by simp [SOp.opds])]
  | append e size bytes x y =>
    have e1 := h1 x (by simp [SOp.opds])
    have e2 := one x (by simp [SOp.peeks])
    simp only [aop]
    rw [rowsOf_local (one y (by simp [SOp.peeks])), ← e1, ← h1 y (by simp [SOp.opds]), h3 rfl]
    cases hx : ev x <;> first | rfl | (dsimp only; rw [e2 _ (by rw [hx]; simp [V.ids1])])
  | makeSlice e size bytes z l c => simp only [aop]; rw [h3 rfl, h1 l (by simp [SOp.opds]), h1 c (by simp [SOp.opds])]
  | max l => simp only [aop]; rw [show l.map ev = l.map ev' from List.map_congr_left (fun x hx => h1 x hx)]
  | min l => simp only [aop]; rw [show l.map ev = l.map ev' from List.map_congr_left (fun x hx => h1 x hx)]
  | extract x i => simp only [aop]; rw [h1 x (by simp [SOp.opds])]
  | bytes x => simp only [aop]; rw [h1 x (by simp [SOp.opds])]
  | call f args =>
    simp only [aop]
    have e1 : mapM' (fun x => toD2 bl (ev x)) args = mapM' (fun x => toD2 bl' (ev' x)) args := mapM'_congr fun x hx => by
      rw [toD2_local (h2' x hx), h1 x hx]
    have e2 : (args.flatMap fun x => fz2 bl (ev x)) = args.flatMap fun x => fz2 bl' (ev' x) := flatMap_congr' fun x hx => by
      rw [fz2_local (h2' x hx), h1 x hx]
    rw [e1, e2]
    simp only [h5 rfl]
  | mkfn f caps =>
    simp only [aop]
    have d1 : ∀ x ∈ caps, ∀ id ∈ (ev x).dids1 bl, bl id = bl' id := fun x hx id hid => h2' x hx id (dids_sub id hid)
    have e1 : mapM' (fun x => toD1 bl (ev x)) caps = mapM' (fun x => toD1 bl' (ev' x)) caps := mapM'_congr fun x hx => by
      rw [toD1_local (d1 x hx), h1 x hx]
    have e2 : (caps.flatMap fun x => fz1 bl (ev x)) = caps.flatMap fun x => fz1 bl' (ev' x) := flatMap_congr' fun x hx => by
      rw [fz1_local (d1 x hx), h1 x hx]
    rw [e1, e2]
  | callv g args =>
    simp only [aop]
    have e1 : mapM' (fun x => toD2 bl (ev x)) args = mapM' (fun x => toD2 bl' (ev' x)) args := mapM'_congr fun x hx => by
      rw [toD2_local (h2' x hx), h1 x (List.mem_cons_of_mem _ hx)]
    have e2 : (args.flatMap fun x => fz2 bl (ev x)) = args.flatMap fun x => fz2 bl' (ev' x) := flatMap_congr' fun x hx => by
      rw [fz2_local (h2' x hx), h1 x (List.mem_cons_of_mem _ hx)]
    rw [e1, e2, h1 g (List.mem_cons_self ..)]
    simp only [h5 rfl]
theorem aop_localS {C : Nat → List D → Option D} {site : Nat} {v : V} {wr : List (Nat × Option Blk)} (so : SOp) (h1 : ∀ x ∈ so.opds, ev x = ev' x) (h2 : ∀ x ∈ so.peeks, ∀ id ∈ (ev x).ids, bl id = bl' id) (h2' : ∀ x ∈ so.deeps, ∀ id ∈ (ev x).dids bl, bl id = bl' id) (h3 : so.new = true → bl site = bl' site)
    (h4 : ∀ p ∈ wr, bl p.1 = bl' p.1) (hs : aop C site ev bl so = some (v, wr)) : aop C site ev' bl' so = some (v, wr) := by
  cases hc : so.isCall with
  | false => exact (aop_local so (fun e => by rw [hc] at e; cases e) h1 h2 h2' h3).symm.trans hs
  | true =>
    cases so with
    | call f args =>
      simp only [aop] at hs ⊢
      have e1 : mapM' (fun x => toD2 bl (ev x)) args = mapM' (fun x => toD2 bl' (ev' x)) args := mapM'_congr fun x hx => by
        rw [toD2_local (h2' x hx), h1 x hx]
      have e2 : (args.flatMap fun x => fz2 bl (ev x)) = args.flatMap fun x => fz2 bl' (ev' x) := flatMap_congr' fun x hx => by
        rw [fz2_local (h2' x hx), h1 x hx]
      rw [e1, e2] at hs
      split at hs
      · cases hs
      · split at hs
        · cases hs
        · exact callRes_local h4 hs
    | callv g args =>
      simp only [aop] at hs ⊢
      have e1 : mapM' (fun x => toD2 bl (ev x)) args = mapM' (fun x => toD2 bl' (ev' x)) args := mapM'_congr fun x hx => by
        rw [toD2_local (h2' x hx), h1 x (List.mem_cons_of_mem _ hx)]
      have e2 : (args.flatMap fun x => fz2 bl (ev x)) = args.flatMap fun x => fz2 bl' (ev' x) := flatMap_congr' fun x hx => by
        rw [fz2_local (h2' x hx), h1 x (List.mem_cons_of_mem _ hx)]
      rw [e1, e2, h1 g (List.mem_cons_self ..)] at hs
      split at hs
      · split at hs
        · cases hs
        · split at hs
          · cases hs
          · exact callRes_local h4 hs
      · cases hs
    | _ => cases hc
end
end Vm
end Go.Proofs.Ytdjfaepokfdihaa
