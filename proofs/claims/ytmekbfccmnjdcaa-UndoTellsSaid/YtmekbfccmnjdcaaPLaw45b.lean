/- Layer 45 (undo): what falls, and what comes back. -/
import Derived.Test.YtmekbfccmnjdcaaPLaw45
set_option linter.unusedVariables false
set_option linter.unusedSimpArgs false
namespace Go.Proofs.Ytmekbfccmnjdcaa
open Go.RowKit Vm
theorem extB {l m:List Bool} (h:l.length = m.length) (e:∀ i,i < l.length→el l i = el m i):l = m:=by
 apply List.ext_getElem h
 intro i h1 h2
 have:=e i h1
 rwa [el_lt l i h1,el_lt m i h2] at this
theorem take_set (more:List Int) (k:Nat) (hk:k < more.length) (b:Bool) (sk:List Bool):(setAll (more.take k) b sk).set (el more k).toNat b = setAll (more.take (k + 1)) b sk:=by
 unfold setAll
 rw [List.take_add_one,List.foldl_append,List.getElem?_eq_getElem hk,el_lt _ _ hk]
 rfl
theorem take_ok {n:Nat} {more:List Int} {k:Nat} (hk:k < more.length) (h:∀ z ∈ more.take k,0 ≤ z ∧ z.toNat < n) (h2:0 ≤ el more k ∧ (el more k).toNat < n):∀ z ∈ more.take (k + 1),0 ≤ z ∧ z.toNat < n:=by
 intro z hz
 rw [List.take_add_one,List.mem_append,List.getElem?_eq_getElem hk] at hz
 rcases hz with q | q
 ·exact h z q
 ·simp at q
  rw [q,← el_lt more k hk]
  exact h2
end Go.Proofs.Ytmekbfccmnjdcaa
