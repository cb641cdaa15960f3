/- The kit's texts that the walks of this seat import, under one name; small lemmas on results. What memory holds: slices of ints. Below carries it. The kit's texts on a range over a function; small lemmas on blocks. -/
import Derived.Test.YtibhbfhelfjloaaChecked
import Derived.WalkKit
import Derived.Lib.Hide
import Derived.Deep.Cut
import Derived.Deep.CutRange
import Derived.Deep.DeepCutAuto
import Derived.Deep.LoopGhost
import Derived.Deep.QuietTactic
import Derived.BigQuiet
import Derived.WalkSpells
import Derived.WalkLawsBesides
import Derived.WalkSmall
import Derived.Deep.RegionWith
import Derived.Deep.RegionHeld3
import Derived.Deep.DeepFit
import Derived.Deep.DeepMust
import Derived.Deep.Light
import Derived.RangeFuncNested
import Derived.RangeFuncBound
import Derived.RangeFuncCalls
import Derived.RangeFuncLeaves
import Derived.RangeFuncBox
import Derived.Shelf.Abstract
import Derived.Shelf.RegionOpen
import Derived.OwnWalkIn
import Derived.TacticsInMore
import Derived.LoopNIn
import Derived.LoopIn
set_option linter.unusedVariables false
namespace Go.Proofs.Ytibhbfhelfjloaa
open Go.RowKit
theorem ret2i {k k' : IntKind} {a b a' b' : Int} (h1:a = a') (h2:b = b') :
  Ending.returned (.tuple #[.int k a,.int k' b]) = .returned (.tuple #[.int k a',.int k' b']):=by rw [h1,h2]
theorem ret3i {k k' k'' : IntKind} {a b c a' b' c' : Int} (h1:a = a') (h2:b = b') (h3:c = c') :
  Ending.returned (.tuple #[.int k a,.int k' b,.int k'' c]) = .returned (.tuple #[.int k a',.int k' b',.int k'' c']):=by rw [h1,h2,h3]
theorem ret1i {k:IntKind} {a b:Int} (h:a = b):Ending.returned (.int k a) = .returned (.int k b):=by rw [h]
theorem ret1b {a b:Bool} (h:a = b):Ending.returned (.bool a) = .returned (.bool b):=by rw [h]
end Go.Proofs.Ytibhbfhelfjloaa
set_option linter.unusedVariables false
namespace Go.Proofs.Ytibhbfhelfjloaa
open Go.RowKit
def at0 (l:List Int) (j:Nat):Int:=l[j]?.getD 0
def Ints (w:World) (v:Value) (xs:List Int):Prop :=
 xs.length ≤ 140737488355328 ∧
 ((∃ a c,v = .slice a 0 c ∧ xs = []) ∨ ∃ b off c,v = .slice (some ⟨b,off,none⟩) xs.length c ∧ ∀ j,j < xs.length→w.cell? ⟨b,off + j,none⟩ = some (.int .i64 (at0 xs j)))
theorem Ints.below {A B:World} {n:Nat} (h:Below A.heap.size A B) (_hn:n = 0) {v:Value} {xs:List Int}:Ints A v xs→Ints B v xs:=by
 rintro ⟨hl,h0 | ⟨b,off,c,rfl,hc⟩⟩
 ·exact ⟨hl,.inl h0⟩
 ·exact ⟨hl,.inr ⟨b,off,c,rfl,fun j hj=>(h.cell (p:=⟨b,off + j,none⟩) (World.block_lt_of_cell? A _ (hc j hj))).trans (hc j hj)⟩⟩
theorem Ints.to {A B:World} (h:Below A.heap.size A B) {v:Value} {xs:List Int} (hi:Ints A v xs):Ints B v xs:=Ints.below h (n:=0) rfl hi
theorem Ints.nil (w:World) (a:Option Addr) (c:Nat):Ints w (.slice a 0 c) []:=⟨by simp,.inl ⟨a,c,rfl,rfl⟩⟩
def idx (x:Int):List Int→Int
 | []=>-1
 | y :: r=>if x = y then 0 else if idx x r = -1 then -1 else idx x r + 1
theorem idx_ge (x:Int):∀ l,-1 ≤ idx x l
 | []=>by simp [idx]
 | y :: r=>by
  have:=idx_ge x r
  unfold idx
  split
  ·omega
  ·split <;> omega
theorem idx_mem (x:Int):∀ l,(0 ≤ idx x l ↔ x ∈ l)
 | []=>by simp [idx]
 | y :: r=>by
  have h:=idx_mem x r
  have:=idx_ge x r
  unfold idx
  by_cases e:x = y
  ·simp [e]
  ·rw [if_neg e]
   by_cases h1:idx x r = -1
   ·rw [if_pos h1]
    have:x ∉ r:=fun hh=>by have:=h.2 hh; omega
    simp [e,this]
   ·rw [if_neg h1]
    have:x ∈ r:=h.1 (by omega)
    simp [this]; omega
theorem idx_at (x:Int):∀ (l:List Int) (k:Nat),k < l.length→at0 l k = x→(∀ j,j < k→at0 l j ≠ x)→idx x l = k
 | [],k,hk,_,_=>by simp at hk
 | y :: r,0,_,he,_=>by simp [at0] at he; simp [idx,he]
 | y :: r,k + 1,hk,he,hn=>by
  have h0:y ≠ x:=by simpa [at0] using hn 0 (by omega)
  have ih:=idx_at x r k (by simpa using hk) (by simpa [at0] using he) (fun j hj=>by simpa [at0] using hn (j + 1) (by omega))
  unfold idx
  rw [if_neg (fun e=>h0 e.symm),ih,if_neg (by omega)]
  omega
theorem idx_none (x:Int) (l:List Int) (hn:∀ j,j < l.length→at0 l j ≠ x):idx x l = -1:=by
 have h:=idx_mem x l
 have:=idx_ge x l
 apply Classical.byContradiction
 intro hne
 have hm:=h.1 (by omega)
 obtain ⟨j,hj,e⟩:=List.mem_iff_getElem.1 hm
 exact hn j hj (by simp [at0,hj,e])
set_option maxRecDepth 100000 in
theorem index_calls (v:Value) (x:Int) (xs:List Int) (w:World) (h:Ints w v xs) :
  Calls Try.prog 55 #[v,.int .i64 x] w fun e w'=>e = .returned (.int .i64 (idx x xs)) ∧ w = w':=by
 obtain ⟨hl,⟨a,c,rfl,rfl⟩ | ⟨b,off,c,rfl,hc⟩⟩:=h
 ·clear hl
  go_enter Try.func55,Try.ntmps55
  go_wp2
  go_loop [5,8] (fun i k=>k = .int .i64 0) (fun _ _=>0)
  case atStart=>rfl
  case round =>
   obtain rfl:=hrel
   go_wp2
   go_ret
   exact ⟨rfl,rfl⟩
 ·go_enter Try.func55,Try.ntmps55
  go_wp2
  go_loop [5,8] (fun i kv=>∃ k:Nat,k ≤ xs.length ∧ kv = .int .i64 k ∧ ∀ j,j < k→at0 xs j ≠ x) (fun _ k=>xs.length - (intOf k).toNat)
  case atStart=>exact ⟨0,Nat.zero_le _,rfl,fun j hj=>by omega⟩
  case round =>
   obtain ⟨k,hk,rfl,hno⟩:=hrel
   have hnoH:=Lib.hid hno
   have hcH:=Lib.hid hc
   clear hc hno
   by_cases hlt:k < xs.length
   ·have hck:=hcH.out k hlt
    by_cases he:at0 xs k = x
    ·have hid:=Lib.hid (idx_at x xs k hlt he hnoH.out)
     have hb:(x == at0 xs k) = true:=by simp [he]
     clear he
     generalize at0 xs k = y at *
     go_wp2
     go_ret
     exact ⟨ret1i hid.out.symm,rfl⟩
    ·have hb:(x == at0 xs k) = false:=by simpa using fun e=>he e.symm
     have heH:=Lib.hid he
     clear he
     go_wp2
     go_round
     case rel=>exact ⟨k + 1,by omega,by go_num,fun j hj=>by
      rcases (by omega:j < k ∨ j = k) with h | rfl
      ·exact hnoH.out j h
      ·exact heH.out⟩
     case measure=>simp [intOf]; omega
   ·obtain rfl:k = xs.length:=by omega
    have hid:=Lib.hid (idx_none x xs hnoH.out)
    go_wp2
    go_ret
    exact ⟨ret1i hid.out.symm,rfl⟩
theorem contains_calls (v:Value) (x:Int) (xs:List Int) (w:World) (h:Ints w v xs) :
  Calls Try.prog 62 #[v,.int .i64 x] w fun e w'=>e = .returned (.bool (decide (x ∈ xs))) ∧ w = w':=by
 have hm:=Lib.hid (idx_mem x xs)
 have h:=Lib.hid h
 go_enter Try.func62,Try.ntmps62
 go_wp2_with (go_at_call 55; refine (index_calls _ _ _ _ h.out).mono ?_; rintro e w' ⟨rfl,rfl⟩)
 go_ret
 exact ⟨ret1b (by simp only [← hm.out]),rfl⟩
theorem contains_is (v:Value) (x:Int) (xs:List Int) (p:Bool) (w:World) (h:Ints w v xs) (hp:decide (x ∈ xs) = p) :
  Calls Try.prog 62 #[v,.int .i64 x] w fun e w'=>e = .returned (.bool p) ∧ w = w':=by
 subst hp; exact contains_calls v x xs w h
end Go.Proofs.Ytibhbfhelfjloaa
set_option linter.unusedVariables false
namespace Go.Proofs.Ytibhbfhelfjloaa
open Go.RowKit Go.Shelf
theorem grown_of_below {a b:World} (h:Below a.heap.size a b) (row:Option Nat):a.grownBy b row :=
 ⟨h.os,h.tape,h.output,h.size,fun i hi _=>h.block i hi⟩
theorem cell_of_blk {W:World} {b:Nat} {cs:Array Value} {t:TypeId} {o:Nat} {v:Value} (h:W.heap[b]? = some (.cells cs t)) (hv:cs[o]? = some v):W.cell? ⟨b,o,none⟩ = some v:=by
 simp [World.cell?,h,hv]
theorem frozen_of_blk {W:World} {b:Nat} {cs:Array Value} {t:TypeId} {o:Nat} (h:W.heap[b]? = some (.cells cs t)):W.frozen? ⟨b,o,none⟩ = false:=by
 simp [World.frozen?,h]
theorem blk_to {A B:World} (h:Below A.heap.size A B) {b:Nat} {o:Obj} (hb:A.heap[b]? = some o):B.heap[b]? = some o :=
 (h.block b (Array.getElem?_eq_some_iff.1 hb).1).trans hb
def KpBox (n₀:Nat) (bs:List Nat) (A B:World):Prop:=Below n₀ A B ∧ ∀ b ∈ bs,B.heap[b]? = A.heap[b]?
theorem KpBox.t {n₀:Nat} {bs:List Nat} {A B C:World} (h:KpBox n₀ bs A B) (k:KpBox n₀ bs B C):KpBox n₀ bs A C :=
 ⟨h.1.trans k.1,fun b hb=>(k.2 b hb).trans (h.2 b hb)⟩
theorem KpBox.b {n₀:Nat} {bs:List Nat} {w:World} (hn:n₀ ≤ w.heap.size) (hbs:∀ b ∈ bs,b < w.heap.size) (W:World) (l:Nat) (o o' : Obj) (hl:w.heap.size ≤ l) (h:W.heap[l]? = some o) (hc:o.isCells = false) (hw:o.isWalk = false) :
  KpBox n₀ bs W (W.putObj l o') :=
 ⟨belowK_b hn W l o o' hl h hc hw,fun b hb=>World.putObj_heap_other (by have:=hbs b hb; omega)⟩
theorem alloc6 (w W:World) (a b c d e f:Obj) (hW:(((((w.alloc a).alloc b).alloc c).alloc d).alloc e).alloc f = W) :
  W.heap.size = w.heap.size + 6 ∧ W.heap[w.heap.size]? = some a ∧ W.heap[w.heap.size + 1]? = some b ∧ W.heap[w.heap.size + 1 + 1]? = some c ∧ W.heap[w.heap.size + 1 + 1 + 1]? = some d ∧
  W.heap[w.heap.size + 1 + 1 + 1 + 1]? = some e ∧ W.heap[w.heap.size + 1 + 1 + 1 + 2]? = some f ∧ Below w.heap.size w W:=by
 subst hW
 refine ⟨by simp,?_,?_,?_,?_,?_,?_,(((((((Below.refl _ _).alloc (Nat.le_refl _) _).alloc (by simp) _).alloc (by simp; omega) _).alloc (by simp; omega) _).alloc (by simp; omega) _).alloc (by simp; omega) _)⟩
 all_goals
  simp only [World.alloc,Array.getElem?_push,Array.size_push]
  first
   | (simp; done)
   | (rw [if_neg (by omega),if_neg (by omega),if_neg (by omega),if_neg (by omega),if_neg (by omega)]; simp)
theorem one_kept {W W' : World} {row:Option Nat} {b:Nat} {v:Value} (h:W.cell? ⟨b,0,none⟩ = some v ∧ W.frozen? ⟨b,0,none⟩ = false) (hg:W.grownBy W' row) (hrow:∀ r,row = some r→∃ o:Obj,W.heap[r]? = some o ∧ o.isCells = false) :
  W'.cell? ⟨b,0,none⟩ = some v ∧ W'.frozen? ⟨b,0,none⟩ = false:=⟨cell_kept h.1 hg hrow,(frozen_kept h.1 hg hrow).trans h.2⟩
theorem two_stores (W:World) (p q:Nat) (hpq:p ≠ q) {u1 u2:Value} (v1 v2:Value) (h1:W.cell? ⟨p,0,none⟩ = some u1 ∧ W.frozen? ⟨p,0,none⟩ = false) (h2:W.cell? ⟨q,0,none⟩ = some u2 ∧ W.frozen? ⟨q,0,none⟩ = false) :
  (((W.setCell ⟨p,0,none⟩ v1).setCell ⟨q,0,none⟩ v2).cell? ⟨p,0,none⟩ = some v1 ∧ ((W.setCell ⟨p,0,none⟩ v1).setCell ⟨q,0,none⟩ v2).frozen? ⟨p,0,none⟩ = false) ∧
  (((W.setCell ⟨p,0,none⟩ v1).setCell ⟨q,0,none⟩ v2).cell? ⟨q,0,none⟩ = some v2 ∧ ((W.setCell ⟨p,0,none⟩ v1).setCell ⟨q,0,none⟩ v2).frozen? ⟨q,0,none⟩ = false):=by
 have e1:(W.setCell ⟨p,0,none⟩ v1).cell? ⟨p,0,none⟩ = some v1:=World.cell?_setCell_same' _ _ _ (by rw [h1.1]; rfl)
 have e2:(W.setCell ⟨p,0,none⟩ v1).cell? ⟨q,0,none⟩ = some u2:=(World.cell?_setCell_far _ _ _ _ hpq).trans h2.1
 refine ⟨⟨(World.cell?_setCell_far _ _ _ _ (fun h=>hpq h.symm)).trans e1,?_⟩,World.cell?_setCell_same' _ _ _ (by rw [e2]; rfl),?_⟩
 ·rw [World.frozen?_setCell,World.frozen?_setCell]; exact h1.2
 ·rw [World.frozen?_setCell,World.frozen?_setCell]; exact h2.2
end Go.Proofs.Ytibhbfhelfjloaa
