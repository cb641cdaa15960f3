/- What it is that memory holds what the small machine says. -/
import Derived.Test.YtdjfaepokfdihaaVm
set_option linter.unusedVariables false
namespace Go.Proofs.Ytdjfaepokfdihaa
namespace Vm
open Go.RowKit

/-- a part of memory -/
abbrev Hp := Nat → Option Obj
def Hp.le (h k : Hp) : Prop := ∀ b o, h b = some o → k b = some o
def hw (w : World) : Hp := fun b => w.heap[b]?
def Hp.cell (h : Hp) (b o : Nat) : Option Value := match h b with
  | some (.cells c _ _) => c[o]?
  | _ => none
theorem Hp.le.refl (h : Hp) : h.le h := fun _ _ e => e
theorem Hp.le.trans {a b c : Hp} (h : a.le b) (k : b.le c) : a.le c := fun x o e => k x o (h x o e)
theorem Hp.cell_le {h k : Hp} (l : h.le k) {b o : Nat} {v : Value} (e : h.cell b o = some v) : k.cell b o = some v := by
  unfold Hp.cell at *
  cases hb : h b with
  | none => simp [hb] at e
  | some x => rw [l b x hb]; rw [hb] at e; exact e
theorem cell_hw (w : World) (b o : Nat) : w.cell? ⟨b, o, none⟩ = (hw w).cell b o := by
  simp only [World.cell?, Hp.cell, hw]
  cases w.heap[b]? with
  | none => rfl
  | some x => cases x <;> rfl

/-- no tuple -/
def D.noTup : D → Bool
  | .tup _ => false
  | _ => true
inductive Reads (h : Hp) : Value → D → Prop
  | int (k : IntKind) (n : Int) : Reads h (.int k n) (.int k n)
  | bool (b : Bool) : Reads h (.bool b) (.bool b)
  | str (s : ByteArray) (hs : s.size ≤ maxLen) : Reads h (.string s) (.str s)
  | np : Reads h (.pointer none) .np
  | fn (f : Nat) (arr : Array Value) (cs : List D) (hl : arr.size = cs.length) (hr : ∀ (j : Nat) (x : D), cs[j]? = some x → Reads h (arr.getD j undef) x) : Reads h (.func (.func f) #[] arr) (.fn f cs)
  | sl0 (a : Option Addr) (c : Nat) (h0 : a = none → c = 0) : Reads h (.slice a 0 c) (.sl [])
  | sl (b off c k n : Nat) (rows : List (List D)) (cv : Nat → Nat → Value) (hn : n = rows.length) (hc : rows.length ≤ c)
      (hk : ∀ (i : Nat) (row : List D), rows[i]? = some row → row.length = k)
      (hm : ∀ (i : Nat) (row : List D) (j : Nat) (x : D), rows[i]? = some row → row[j]? = some x → h.cell b (off + i * k + j) = some (cv i j))
      (hr : ∀ (i : Nat) (row : List D) (j : Nat) (x : D), rows[i]? = some row → row[j]? = some x → Reads h (cv i j) x)
      (ho : ∀ (i : Nat) (row : List D) (j : Nat) (x : D), rows[i]? = some row → row[j]? = some x → (cv i j).oneCell' = true) : Reads h (.slice (some ⟨b, off, none⟩) n c) (.sl rows)
  | agg (arr : Array Value) (cs : List D) (hl : arr.size = cs.length) (hr : ∀ (j : Nat) (x : D), cs[j]? = some x → Reads h (arr.getD j undef) x)
      (ho : ∀ (j : Nat) (x : D), cs[j]? = some x → (arr.getD j undef).oneCell' = true) : Reads h (.agg arr) (.agg cs)
  | tup (arr : Array Value) (vs : List D) (hl : arr.size = vs.length) (hr : ∀ (j : Nat) (x : D), vs[j]? = some x → Reads h (arr.getD j undef) x) (hn : ∀ (j : Nat) (x : D), vs[j]? = some x → x.noTup = true) : Reads h (.tuple arr) (.tup vs)
  | ptr (b o off n : Nat) (row : List D) (cv : Nat → Value) (hn : n = o + off)
      (hm : ∀ (j : Nat) (x : D), row[j]? = some x → h.cell b (o + j) = some (cv j))
      (hr : ∀ (j : Nat) (x : D), row[j]? = some x → Reads h (cv j) x)
      (ho : ∀ (j : Nat) (x : D), row[j]? = some x → (cv j).oneCell' = true) : Reads h (.pointer (some ⟨b, n, none⟩)) (.ptr row off)

theorem Reads.mono {h k : Hp} (l : h.le k) {v : Value} {x : D} (r : Reads h v x) : Reads k v x := by
  induction r with
  | int => exact .int _ _
  | bool => exact .bool _
  | str s hs => exact .str s hs
  | np => exact .np
  | fn f arr cs hl hr ih => exact .fn f arr cs hl ih
  | sl0 a c h0 => exact .sl0 a c h0
  | sl b off c kk n rows cv hn hc hk hm hr ho ih => exact .sl b off c kk n rows cv hn hc hk (fun i row j x h1 h2 => Hp.cell_le l (hm i row j x h1 h2)) ih ho
  | agg arr cs hl hr ho ih => exact .agg arr cs hl ih ho
  | tup arr vs hl hr hn ih => exact .tup arr vs hl ih hn
  | ptr b o off n row cv hn hm hr ho ih => exact .ptr b o off n row cv hn (fun j x h1 => Hp.cell_le l (hm j x h1)) ih ho

/-- no struct, no tuple -/
def D.atom : D → Bool
  | .agg _ | .tup _ => false
  | _ => true
theorem Reads.one {h : Hp} {v : Value} {x : D} (r : Reads h v x) (hx : x.atom = true) : v.oneCell' = true := by
  cases r <;> first | rfl | simp [D.atom] at hx

/-- the block of a pointer or a slice -/
def numOf : Value → Option Nat
  | .pointer (some a) => some a.block
  | .slice (some a) _ _ => some a.block
  | _ => none
def Blk.ver? : Blk → Option Nat
  | .rows v _ _ _ => some v
  | .froz v _ => some v
  | .box _ => none
  | .fbox _ => none
def Blk.isBox : Blk → Bool
  | .box _ | .fbox _ => true
  | _ => false

def R1 (h : Hp) (hd : Nat → Value) (bl : Nat → Option Blk) (v : Value) : V → Prop
  | .any => True
  | .d x => x.atom = true ∧ Reads h v x
  | .nil => v = .slice none 0 0
  | .ptr id off => (∃ b, bl id = some b ∧ b.isBox = true) ∧ ∃ g, hd id = .pointer (some ⟨g, 0, none⟩) ∧ v = .pointer (some ⟨g, off, none⟩)
  | .own id ver => ∃ b c, bl id = some b ∧ b.ver? = some c ∧ ver ≤ c ∧ v.oneCell' = true ∧ (ver = c → v = hd id)
  | .orow id ver i off => ∃ b c, bl id = some b ∧ b.ver? = some c ∧ ver ≤ c ∧ v.oneCell' = true ∧ ∀ e size rows, b = .rows ver e size rows → ∃ g n c, hd id = .slice (some ⟨g, 0, none⟩) n c ∧ v = .pointer (some ⟨g, i * size + off, none⟩)
  | .fn f caps => caps = [] ∧ v = .func (.func f) #[] #[]
  | .agg _ | .tup _ => False
def R2 (h : Hp) (hd : Nat → Value) (bl : Nat → Option Blk) (v : Value) : V → Prop
  | .agg cs => ∃ arr, v = .agg arr ∧ arr.size = cs.length ∧ ∀ j x, cs[j]? = some x → R1 h hd bl (arr.getD j undef) x ∧ (arr.getD j undef).oneCell' = true
  | x => R1 h hd bl v x
def R3 (h : Hp) (hd : Nat → Value) (bl : Nat → Option Blk) (v : Value) : V → Prop
  | .tup vs => ∃ arr, v = .tuple arr ∧ arr.size = vs.length ∧ ∀ j x, vs[j]? = some x → R2 h hd bl (arr.getD j undef) x
  | x => R2 h hd bl v x

/-- the rows, one behind the other, in the cells xs -/
def RowsIn (h : Hp) (size : Nat) (rows : List (List D)) (xs : List Value) : Prop :=
  ∀ i row, rows[i]? = some row → row.length = size ∧ ∀ j x, row[j]? = some x → x.atom = true ∧ ∃ u, xs[i * size + j]? = some u ∧ Reads h u x

def BR (base : Nat) (w : World) (h : Hp) (hd : Nat → Value) (bl : Nat → Option Blk) (id : Nat) : Blk → Prop
  | .box cs => ∃ g arr e, hd id = .pointer (some ⟨g, 0, none⟩) ∧ base ≤ g ∧ w.heap[g]? = some (.cells arr e (0, 0)) ∧ arr.size = cs.length ∧
      (∀ j x, cs[j]? = some x → R1 h hd bl (arr.getD j undef) x ∧ (arr.getD j undef).oneCell' = true) ∧ h g = none
  | .rows ver e size rows => 0 < size ∧ rows.length ≤ maxLen ∧ (∃ xs, w.ownsRow base e size (hd id) rows.length xs ∧ RowsIn h size rows xs) ∧ ∀ g, numOf (hd id) = some g → h g = none
  | .froz ver rows => Reads h (hd id) (.sl rows)
  | .fbox cs => Reads h (hd id) (.ptr cs 0)
def Blk.live : Blk → Bool
  | .froz _ _ => false
  | .fbox _ => false
  | _ => true

structure Rl (nt : Nat) (w0 : World) (h0 : Hp) (fr : Nat → V) (bl : Nat → Option Blk) (a : Act) (w : World) (h : Hp) (hd : Nat → Value) : Prop where
  tmps : a.tmps.size = nt
  defers : a.defers = []
  below : Below w0.heap.size w0 w
  hle : h.le (hw w)
  h0le : h0.le h
  hbase : ∀ b, b < w0.heap.size → h b = h0 b
  frame : ∀ t, R3 h hd bl (a.tmps.getD t undef) (fr t)
  blk : ∀ id b, bl id = some b → BR w0.heap.size w h hd bl id b
  sep : ∀ i j bi bj g, bl i = some bi → bl j = some bj → bi.live = true → bj.live = true → numOf (hd i) = some g → numOf (hd j) = some g → i = j
def Rel (nt : Nat) (w0 : World) (h0 : Hp) (fr : Nat → V) (bl : Nat → Option Blk) (a : Act) (w : World) : Prop := ∃ h hd, Rl nt w0 h0 fr bl a w h hd

/-! ### from one state to the next -/
/-- what became of a block -/
def Kept (hd hd' : Nat → Value) (id : Nat) : Blk → Blk → Prop
  | .box _, .box _ => hd' id = hd id
  | .box _, .fbox _ => hd' id = hd id
  | .fbox _, .fbox _ => hd' id = hd id
  | .rows v e s _, .rows v' e' s' _ => (v' = v ∧ e' = e ∧ s' = s ∧ hd' id = hd id) ∨ v < v'
  | .rows v _ _ _, .froz v' _ => v' = v ∧ hd' id = hd id
  | .froz v _, .froz v' _ => v' = v ∧ hd' id = hd id
  | _, _ => False
def Kp (hd hd' : Nat → Value) (bl bl' : Nat → Option Blk) : Prop := ∀ id b, bl id = some b → ∃ b', bl' id = some b' ∧ Kept hd hd' id b b'
theorem Kept.refl (hd : Nat → Value) (id : Nat) (b : Blk) : Kept hd hd id b b := by cases b <;> simp [Kept]
theorem Kp.refl (hd : Nat → Value) (bl : Nat → Option Blk) : Kp hd hd bl bl := fun id b h => ⟨b, h, Kept.refl hd id b⟩

section
variable {h h' : Hp} {hd hd' : Nat → Value} {bl bl' : Nat → Option Blk} {v : Value}
theorem R1.keep (l : h.le h') (k : Kp hd hd' bl bl') : ∀ {x : V}, R1 h hd bl v x → R1 h' hd' bl' v x := by
  intro x r
  cases x with
  | any => trivial
  | d x => exact ⟨r.1, r.2.mono l⟩
  | nil => exact r
  | agg cs => exact r
  | tup cs => exact r
  | ptr id off =>
    obtain ⟨⟨b, hb, hx⟩, g, hg, e⟩ := r
    obtain ⟨b', hb', kk⟩ := k _ _ hb
    cases b <;> cases b' <;> simp only [Kept] at kk <;> first | (simp [Blk.isBox] at hx; done) | exact ⟨⟨_, hb', rfl⟩, g, kk.trans hg, e⟩
  | own id ver =>
    obtain ⟨b, c, hb, hc, hle, h1, he⟩ := r
    obtain ⟨b', hb', kk⟩ := k _ _ hb
    cases b <;> cases b' <;> simp only [Kept] at kk <;> simp only [Blk.ver?, Option.some.injEq, reduceCtorEq] at hc
    · rcases kk with ⟨rfl, _, _, kk⟩ | kk
      · exact ⟨_, _, hb', rfl, by omega, h1, fun e => (he (by omega)).trans kk.symm⟩
      · exact ⟨_, _, hb', rfl, by omega, h1, fun e => by omega⟩
    · obtain ⟨rfl, kk⟩ := kk
      exact ⟨_, _, hb', rfl, by omega, h1, fun e => (he (by omega)).trans kk.symm⟩
    · obtain ⟨rfl, kk⟩ := kk
      exact ⟨_, _, hb', rfl, by omega, h1, fun e => (he (by omega)).trans kk.symm⟩
  | orow id ver i off =>
    obtain ⟨b, c, hb, hc, hle, h1, he⟩ := r
    obtain ⟨b', hb', kk⟩ := k _ _ hb
    cases b <;> cases b' <;> simp only [Kept] at kk <;> simp only [Blk.ver?, Option.some.injEq, reduceCtorEq] at hc
    · rcases kk with ⟨rfl, rfl, rfl, kk⟩ | kk
      · refine ⟨_, _, hb', rfl, by omega, h1, fun e s rows eq => ?_⟩
        cases eq
        rw [kk]
        exact he _ _ _ rfl
      · exact ⟨_, _, hb', rfl, by omega, h1, fun e s rows eq => by cases eq; omega⟩
    · exact ⟨_, _, hb', rfl, by omega, h1, fun e s rows eq => by cases eq⟩
    · exact ⟨_, _, hb', rfl, by omega, h1, fun e s rows eq => by cases eq⟩
  | fn f caps => exact r
theorem R1.one {x : V} (r : R1 h hd bl v x) (hx : x ≠ .any) : v.oneCell' = true := by
  cases x with
  | any => exact absurd rfl hx
  | d x => exact r.2.one r.1
  | nil => rw [show v = _ from r]; rfl
  | agg cs => exact r.elim
  | tup cs => exact r.elim
  | ptr id off => obtain ⟨_, g, _, rfl⟩ := r; rfl
  | own id ver => obtain ⟨b, c, hb, hc, hle, h1, he⟩ := r; exact h1
  | orow id ver i off => obtain ⟨b, c, hb, hc, hle, h1, he⟩ := r; exact h1
  | fn f caps => rw [show v = _ from r.2]; rfl
theorem R2.of1 {x : V} (r : R1 h hd bl v x) : R2 h hd bl v x := by
  cases x <;> first | exact r | exact r.elim
theorem R3.of2 {x : V} (r : R2 h hd bl v x) : R3 h hd bl v x := by
  cases x <;> first | exact r | exact r.elim
theorem R2.keep (l : h.le h') (k : Kp hd hd' bl bl') : ∀ {x : V}, R2 h hd bl v x → R2 h' hd' bl' v x := by
  intro x r
  cases x with
  | agg cs =>
    obtain ⟨arr, e, hs, hr⟩ := r
    exact ⟨arr, e, hs, fun j x hx => ⟨(hr j x hx).1.keep l k, (hr j x hx).2⟩⟩
  | _ => exact R2.of1 (R1.keep l k r)
theorem R3.keep (l : h.le h') (k : Kp hd hd' bl bl') : ∀ {x : V}, R3 h hd bl v x → R3 h' hd' bl' v x := by
  intro x r
  cases x with
  | tup cs =>
    obtain ⟨arr, e, hs, hr⟩ := r
    exact ⟨arr, e, hs, fun j x hx => (hr j x hx).keep l k⟩
  | _ => exact R3.of2 (R2.keep l k r)
theorem RowsIn.mono {size : Nat} {rows : List (List D)} {xs : List Value} (l : h.le h') (r : RowsIn h size rows xs) : RowsIn h' size rows xs := fun i row hi =>
  ⟨(r i row hi).1, fun j x hx => ⟨((r i row hi).2 j x hx).1, by obtain ⟨u, h1, h2⟩ := ((r i row hi).2 j x hx).2; exact ⟨u, h1, h2.mono l⟩⟩⟩
end

theorem num_own {base : Nat} {w : World} {e size n : Nat} {v : Value} {xs : List Value} (h : w.ownsRow base e size v n xs) : numOf v = v.ownBlock := by
  rcases h.2 with ⟨rfl, _⟩ | ⟨g, cap, cur, rfl, _⟩ <;> rfl

/-- a block that nobody touched -/
theorem BR.keep {base : Nat} {w w' : World} {h h' : Hp} {hd hd' : Nat → Value} {bl bl' : Nat → Option Blk} {id : Nat} {b : Blk} (l : h.le h') (k : Kp hd hd' bl bl')
    (hh : hd' id = hd id) (hw : b.live = true → ∀ g, numOf (hd id) = some g → w'.heap[g]? = w.heap[g]? ∧ (h g = none → h' g = none)) (r : BR base w h hd bl id b) : BR base w' h' hd' bl' id b := by
  cases b with
  | box cs =>
    obtain ⟨g, arr, e, h1, h2, h3, h4, h5, h6⟩ := r
    obtain ⟨q1, q2⟩ := hw rfl g (by rw [h1]; rfl)
    exact ⟨g, arr, e, hh.trans h1, h2, q1.trans h3, h4, fun j x hx => ⟨(h5 j x hx).1.keep l k, (h5 j x hx).2⟩, q2 h6⟩
  | rows ver e size rows =>
    obtain ⟨h1, h2, ⟨xs, h3, h4⟩, h5⟩ := r
    refine ⟨h1, h2, ⟨xs, ?_, h4.mono l⟩, fun g hg => (hw rfl g (hh ▸ hg)).2 (h5 g (hh ▸ hg))⟩
    rw [hh]
    refine ⟨h3.1, ?_⟩
    rcases h3.2 with q | ⟨g, cap, cur, q1, q2, q3, q4⟩
    · exact .inl q
    · exact .inr ⟨g, cap, cur, q1, q2, ((hw rfl g (by rw [q1]; rfl)).1).trans q3, q4⟩
  | froz ver rows =>
    show Reads h' (hd' id) (.sl rows)
    rw [hh]
    exact Reads.mono l r
  | fbox cs =>
    show Reads h' (hd' id) (.ptr cs 0)
    rw [hh]
    exact Reads.mono l r

/-- a live block lies above the base, inside memory -/
theorem BR.num {base : Nat} {w : World} {h : Hp} {hd : Nat → Value} {bl : Nat → Option Blk} {id : Nat} {b : Blk} (hb : b.live = true) (r : BR base w h hd bl id b) {g : Nat} (hg : numOf (hd id) = some g) :
    base ≤ g ∧ g < w.heap.size ∧ h g = none := by
  cases b with
  | box cs =>
    obtain ⟨g', arr, e, h1, h2, h3, h4, h5, h6⟩ := r
    rw [h1] at hg
    obtain rfl := Option.some.inj hg
    exact ⟨h2, (Array.getElem?_eq_some_iff.1 h3).1, h6⟩
  | rows ver e size rows =>
    obtain ⟨h1, h2, ⟨xs, h3, h4⟩, h5⟩ := r
    have := h3.lt g ((num_own h3) ▸ hg)
    exact ⟨this.1, this.2, h5 g hg⟩
  | froz ver rows => simp [Blk.live] at hb
  | fbox cs => simp [Blk.live] at hb
end Vm
end Go.Proofs.Ytdjfaepokfdihaa
