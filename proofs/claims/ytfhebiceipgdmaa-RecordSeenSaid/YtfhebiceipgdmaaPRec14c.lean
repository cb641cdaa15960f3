/- What the functions of layer 14 answer: the variables of a case. -/
import Derived.Test.YtfhebiceipgdmaaPRealm
import Derived.Test.YtfhebiceipgdmaaPRec14b
set_option linter.unusedVariables false
set_option linter.unusedSimpArgs false
namespace Go.Proofs.Ytfhebiceipgdmaa
open Go.RowKit Vm
def VV (x m:Int):Int:=IntKind.wrap .i64 (BitVec.ofInt (IntKind.bits .i64) x &&& BitVec.ofInt (IntKind.bits .i64) m).toNat
def aLv (c:a7):Bool:=c.File.Alters.any fun a=>decide (a.At ≤ c.Sign)
theorem QE {α:Type} [Inhabited α] (p:α→Bool) (l:List α) (i:Nat) (h:i < l.length):(l.take (i + 1)).any p = ((l.take i).any p || p (el l i)):=by
  rw [AD l i h,List.any_append]
  simp
def aJC (r:aA) (a:Int):Int:=if 0 ≤ a ∧ a < (r.Cities.length:Int) then (el r.Cities a.toNat).Order else -1
def RV (b:Bool):aY:=⟨true,if b = true then 1 else 0⟩
def aIJ (c:a7):Int:=if 0 > c.Holder then 0 else c.Holder
def aIZ (r:aA) (c:a7) (x:aO) (gap:Int):List aY :=
  [⟨true,c.File.Bill.Sum⟩,⟨true,c.File.Bill.Parts⟩,⟨true,c.File.Bill.Tenor.Kind⟩,⟨true,c.File.Bill.Rate⟩,⟨true,x.Kind⟩,⟨true,c.Defence⟩,⟨true,gap⟩,
   RV (VV c.File.Bill.Flags 1 != 0),RV (c.File.Bill.Payee == (-1)),RV (VV c.File.Bill.Flags 4 != 0),RV (VV c.File.Bill.Flags 2 != 0),RV (aJC r c.File.Bill.City != aJC r c.File.Bill.Pay),RV (aLv c),RV (VV x.Flags 1 != 0),RV (decide (gap > 0))]
def aIR (F:List bG) (s h:Int):List aY:=[JY F 0 s,JY F 1 s,JY F 2 s,JY F 3 h,JY F 4 h]
def cellsOf (r:aA) (c:a7) (x:aO) (gap:Int):List aY:=aIZ r c x gap ++ aIR c.File.Facts c.Sign (aIJ c)
def aHj (c:a7):Prop:=0 ≤ c.Sign ∧ c.Sign < (c.File.Signs.length:Int) ∧ -1 ≤ c.Holder ∧ c.Holder < (c.File.Signs.length:Int) ∧ -1 ≤ c.Due ∧ c.Due ≤ 100000 ∧ 0 ≤ (el c.File.Signs c.Sign.toNat).Day ∧ (el c.File.Signs c.Sign.toNat).Day ≤ 100000
instance (c:a7):Decidable (aHj c):=by unfold aHj; exact inferInstance
theorem Q3 {f:aB} (h:decide (f.Signs.length ≤ 50 ∧ f.Alters.length ≤ 10 ∧ f.Acts.length ≤ 110 ∧ f.Facts.length ≤ 220) = true):aJm f:=by
  have q:=of_decide_eq_true h
  exact ⟨q.1,q.2.1,q.2.2.1,q.2.2.2⟩
theorem KV (S:List aO) (d:Int):(wU S d).length ≤ S.length:=P6 _ _
theorem OT (A:List bB) (d:Int):(DV A d).length ≤ A.length:=P6 _ _
theorem O3 (L:List aZ) (n:Nat):(sN L n).length ≤ L.length:=List.length_filter_le _ _
theorem I9 (F:List bG) (n:Nat):(j8 F n).length ≤ F.length:=List.length_filter_le _ _
end Go.Proofs.Ytfhebiceipgdmaa
