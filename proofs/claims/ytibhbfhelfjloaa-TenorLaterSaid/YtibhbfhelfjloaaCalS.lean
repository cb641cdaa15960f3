/- The walks of the reference's has, Open, Next, Plus, Count. The walks of the reference's Count, of Plus at whatever numbers, of few. Plain laws of open days. No program in sight. -/
import Derived.Test.YtibhbfhelfjloaaCalQ
import Derived.Test.YtibhbfhelfjloaaCalR
set_option linter.unusedVariables false
namespace Go.Proofs.Ytibhbfhelfjloaa
open Go.RowKit
namespace Cal
theorem opens_nil (c:Town) (d:Int):∀ k:Nat,(∀ j:Nat,j < k→openD c (d + j) = false)→opens c d k = []
 | 0,_=>rfl
 | k + 1,h=>by rw [opens_no c d k (h k (by omega)),opens_nil c d k (fun j hj=>h j (by omega))]
theorem nlen_eq (d:Int) (h:okDay d):(nlen d:Int) = min (d + 400) 100000 + 1 - d:=by unfold nlen; obtain ⟨_,_⟩:=h; omega
theorem nx1_at (c:Town) (d:Int) (k:Nat) (h:okDay d) (hk:k ≤ 400) (hk2:d + k ≤ 100000) (ho:openD c (d + k) = true) (hn:∀ j:Nat,j < k→openD c (d + j) = false):nx1 c d = some (d + k):=by
 unfold nx1
 rw [if_pos h]
 unfold nxt
 have hl:=nlen_eq d h
 obtain ⟨r,hr⟩:=opens_prefix c d (k + 1) (nlen d) (by omega)
 rw [hr,opens_yes c d k ho,opens_nil c d k hn]; rfl
theorem nx1_none (c:Town) (d:Int) (h:okDay d) (hn:∀ j:Nat,j ≤ 400→d + j ≤ 100000→openD c (d + j) = false):nx1 c d = none:=by
 unfold nx1
 rw [if_pos h]
 unfold nxt
 have hl:=nlen_eq d h
 rw [opens_nil c d (nlen d) (fun j hj=>hn j (by omega) (by omega))]; rfl
end Cal
end Go.Proofs.Ytibhbfhelfjloaa
set_option linter.unusedVariables false
namespace Go.Proofs.Ytibhbfhelfjloaa
open Go.RowKit
namespace Cal
end Cal
end Go.Proofs.Ytibhbfhelfjloaa
set_option linter.unusedVariables false
namespace Go.Proofs.Ytibhbfhelfjloaa.Cal
theorem first_open (c:Town) (d:Int):∀ n:Nat,(∃ k:Nat,k < n ∧ openD c (d + k) = true ∧ ∀ j:Nat,j < k→openD c (d + j) = false) ∨ ∀ j:Nat,j < n→openD c (d + j) = false
 | 0=>.inr fun j hj=>by omega
 | n + 1=>by
  rcases first_open c d n with ⟨k,hk,h1,h2⟩ | h
  ·exact .inl ⟨k,by omega,h1,h2⟩
  ·cases hp:openD c (d + n) with
   | true=>exact .inl ⟨n,by omega,hp,h⟩
   | false =>
    refine .inr fun j hj=>?_
    rcases (by omega:j < n ∨ j = n) with h' | rfl
    ·exact h j h'
    ·exact hp
theorem nx1_spec {c:Town} {d x:Int} (h:nx1 c d = some x):okDay d ∧ d ≤ x ∧ x ≤ d + 400 ∧ x ≤ 100000 ∧ openD c x = true ∧ ∀ i,d ≤ i→i < x→openD c i = false:=by
 have hd:okDay d:=by
  apply Classical.byContradiction; intro hn
  unfold nx1 at h; rw [if_neg hn] at h; simp at h
 have hl:=nlen_eq d hd
 rcases first_open c d (nlen d) with ⟨k,hk,h1,h2⟩ | h2
 ·have:=nx1_at c d k hd (by omega) (by omega) h1 h2
  rw [this] at h
  obtain rfl:=Option.some.inj h
  refine ⟨hd,by omega,by omega,by omega,h1,fun i hi1 hi2=>?_⟩
  obtain ⟨j,hj⟩:=Int.eq_ofNat_of_zero_le (show 0 ≤ i - d by omega)
  have:=h2 j (by omega)
  rwa [show d + (j:Int) = i from by omega] at this
 ·have:=nx1_none c d hd (fun j hj1 hj2=>h2 j (by omega))
  rw [this] at h; simp at h
theorem nx1_self {c:Town} {x:Int} (hx:okDay x) (h:openD c x = true):nx1 c x = some x:=by
 have:=nx1_at c x 0 hx (by omega) (by have:=hx.2; omega) (by simpa using h) (fun j hj=>by omega)
 simpa using this
def after (c:Town) (d x:Int):Nat:=(opens c (d + 1) (x - d).toNat).length
end Go.Proofs.Ytibhbfhelfjloaa.Cal
