/- Layer 6 (graph): what is reached. -/
import Derived.Test.YtmekbfccmnjdcaaLoops3
import Derived.Test.YtmekbfccmnjdcaaFn
import Derived.Test.YtmekbfccmnjdcaaNextS
set_option linter.unusedVariables false
set_option linter.unusedSimpArgs false
namespace Go.Proofs.Ytmekbfccmnjdcaa
open Go.RowKit Vm
theorem get_el {α:Type} [Inhabited α] (l:List α) (i:Nat) (h:i < l.length):l[i]? = some (el l i):=by rw [List.getElem?_eq_getElem h,el_lt l i h]
def edg (es:List GArr2I) (a b:Nat):Prop:=∃ e ∈ es,e.e0 = (a:Int) ∧ e.e1 = (b:Int)
def inE (n:Nat) (e:GArr2I):Prop:=(0 ≤ e.e0 ∧ e.e0 < (n:Int)) ∧ (0 ≤ e.e1 ∧ e.e1 < (n:Int))
instance (n:Nat) (e:GArr2I):Decidable (inE n e):=by unfold inE; exact inferInstance
def rightG (n:Int) (es:List GArr2I):Prop:=(0 ≤ n ∧ n ≤ 300) ∧ es.length ≤ 2000 ∧ ∀ e ∈ es,inE n.toNat e
instance (n:Int) (es:List GArr2I):Decidable (rightG n es):=by unfold rightG; exact inferInstance
inductive Rch (E:Nat→Nat→Prop) (a:Nat):Nat→Prop
 | refl:Rch E a a
 | tail {b c:Nat}:Rch E a b→E b c→Rch E a c
theorem Rch.trans {E:Nat→Nat→Prop} {a b c:Nat} (h:Rch E a b) (k:Rch E b c):Rch E a c:=by
 induction k with
 | refl=>exact h
 | tail _ e ih=>exact ih.tail e
theorem Rch.head {E:Nat→Nat→Prop} {a b c:Nat} (h:E a b) (k:Rch E b c):Rch E a c:=(Rch.tail .refl h).trans k
theorem Rch.mono {E F:Nat→Nat→Prop} (h:∀ a b,E a b→F a b) {a b:Nat} (k:Rch E a b):Rch F a b:=by
 induction k with
 | refl=>exact .refl
 | tail _ e ih=>exact ih.tail (h _ _ e)
structure Mrk (n:Nat) (es:List GArr2I) (from_:Nat) (busy:Nat→Prop) (out:List Bool) (q:List Int):Prop where
 len:out.length = n
 sound:∀ i,i < n→el out i = true→Rch (edg es) from_ i
 start:el out from_ = true
 queue:∀ x ∈ q,∃ i:Nat,x = i ∧ i < n ∧ el out i = true
 done:∀ i,i < n→el out i = true→(i:Int) ∉ q→¬ busy i→∀ j,edg es i j→el out j = true
end Go.Proofs.Ytmekbfccmnjdcaa
