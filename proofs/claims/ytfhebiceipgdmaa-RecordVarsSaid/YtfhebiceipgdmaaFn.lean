/- What the functions compute, as plain definitions. Printed by a program. -/
import Derived.Test.YtfhebiceipgdmaaTab
set_option linter.unusedVariables false
set_option linter.unusedSimpArgs false
namespace Go.Proofs.Ytfhebiceipgdmaa
open Vm
open Go.RowKit
noncomputable def mallongelaw14_papers:Option (GFile) :=
 some (GFile.mk (GBill.mk 0 1 2 100 0 (GTenor.mk 1 30 0) 2 0 0 (-1) 0 1 1) [(GSign.mk 0 0 0 (-1) (-1) 0 2 0 0),(GSign.mk 1 0 1 (-1) (-1) 100 5 0 0),(GSign.mk 2 0 2 (-1) 3 0 8 0 0)] [] [(GAct.mk 1 2 1 0 (-1) 0 4 0 0)] [(GFact.mk 0 2 1)])
noncomputable def mrecord_within (a0:Int) (a1:Int):Option (Bool) :=
 if decide (a0 ≥ 0) = true then
  some (decide (a0 < a1))
 else
  some false
noncomputable def mrecord_At_l1_s (a0:GFile) (a1:Int) (p1:Int) (p2:List GSign):Option ((Int × (List GSign)) ⊕ ((List GSign))) :=
 if decide (p1 < (a0.Signs.length:Int)) = true then
  (at? a0.Signs p1).bind fun (x3:GSign) =>
  if decide (x3.Day > a1) = true then
   some (.inr (p2))
  else
   if (p2.length + 1) * 72 ≤ 140737488355328 then
    some (.inl (IntKind.wrap .i64 (p1 + 1),p2 ++ [x3]))
   else none
 else
  some (.inr (p2))
noncomputable def mrecord_At_l1 (a0:GFile) (a1:Int) (p1:Int) (p2:List GSign):Option ((List GSign)) :=
 Iter (fun (w:Int × (List GSign))=>mrecord_At_l1_s a0 a1 w.1 w.2) (p1,p2)
noncomputable def mrecord_At_l2_s (a0:GFile) (a1:Int) (r5:(List GSign)) (p6:Int) (p7:List GAct):Option ((Int × (List GAct)) ⊕ ((List GAct))) :=
 if decide (p6 < (a0.Acts.length:Int)) = true then
  (at? a0.Acts p6).bind fun (x8:GAct) =>
  if decide (x8.Day > a1) = true then
   some (.inr (p7))
  else
   if (p7.length + 1) * 72 ≤ 140737488355328 then
    some (.inl (IntKind.wrap .i64 (p6 + 1),p7 ++ [x8]))
   else none
 else
  some (.inr (p7))
noncomputable def mrecord_At_l2 (a0:GFile) (a1:Int) (r5:(List GSign)) (p6:Int) (p7:List GAct):Option ((List GAct)) :=
 Iter (fun (w:Int × (List GAct))=>mrecord_At_l2_s a0 a1 r5 w.1 w.2) (p6,p7)
noncomputable def mrecord_At_l3_s (a0:GFile) (r10:(List GAct)) (r5:(List GSign)) (p11:Int) (p12:List GAlter):Option ((Int × (List GAlter)) ⊕ ((List GAlter))) :=
 if decide (p11 < (a0.Alters.length:Int)) = true then
  (at? a0.Alters p11).bind fun (x13:GAlter) =>
  if decide (x13.At ≤ (r5.length:Int)) = true then
   if (p12.length + 1) * 16 ≤ 140737488355328 then
    some (.inl (IntKind.wrap .i64 (p11 + 1),p12 ++ [x13]))
   else none
  else
   some (.inl (IntKind.wrap .i64 (p11 + 1),p12))
 else
  some (.inr (p12))
noncomputable def mrecord_At_l3 (a0:GFile) (r10:(List GAct)) (r5:(List GSign)) (p11:Int) (p12:List GAlter):Option ((List GAlter)) :=
 Iter (fun (w:Int × (List GAlter))=>mrecord_At_l3_s a0 r10 r5 w.1 w.2) (p11,p12)
noncomputable def mrecord_At_l4_s (a0:GFile) (r10:(List GAct)) (r15:(List GAlter)) (r5:(List GSign)) (p16:Int) (p17:List GFact):Option ((Int × (List GFact)) ⊕ ((List GFact))) :=
 if decide (p16 < (a0.Facts.length:Int)) = true then
  (at? a0.Facts p16).bind fun (x18:GFact) =>
  (mrecord_within x18.At (r5.length:Int)).bind fun (r19:Bool) =>
  if r19 = true then
   if (p17.length + 1) * 24 ≤ 140737488355328 then
    some (.inl (IntKind.wrap .i64 (p16 + 1),p17 ++ [x18]))
   else none
  else
   some (.inl (IntKind.wrap .i64 (p16 + 1),p17))
 else
  some (.inr (p17))
noncomputable def mrecord_At_l4 (a0:GFile) (r10:(List GAct)) (r15:(List GAlter)) (r5:(List GSign)) (p16:Int) (p17:List GFact):Option ((List GFact)) :=
 Iter (fun (w:Int × (List GFact))=>mrecord_At_l4_s a0 r10 r15 r5 w.1 w.2) (p16,p17)
noncomputable def mrecord_At (a0:GFile) (a1:Int):Option (GFile) :=
 (mrecord_At_l1 a0 a1 0 []).bind fun (r5:(List GSign)) =>
 (mrecord_At_l2 a0 a1 r5 0 []).bind fun (r10:(List GAct)) =>
 (mrecord_At_l3 a0 r10 r5 0 []).bind fun (r15:(List GAlter)) =>
 (mrecord_At_l4 a0 r10 r15 r5 0 []).bind fun (r21:(List GFact)) =>
 some (GFile.mk a0.Bill r5 r15 r10 r21)
noncomputable def mallongelaw14_example:Option (GRealm) :=
 some (GRealm.mk [(⟨#[102,114,97,110,99]⟩ : ByteArray)] [(GCity.mk (⟨#[76,121,111,110]⟩ : ByteArray) 0 0 [] [] [])] [(GGroup.mk 0)] [(GFirm.mk (⟨#[97]⟩ : ByteArray) 0 0),(GFirm.mk (⟨#[98]⟩ : ByteArray) 0 0),(GFirm.mk (⟨#[99]⟩ : ByteArray) 0 0),(GFirm.mk (⟨#[100]⟩ : ByteArray) 0 0)] [(GOrder.mk (⟨#[103,101,110,101,118,97]⟩ : ByteArray) false [] [])] [] [] [])
noncomputable def mrecord_Vars_1_s1 (a0:GAlter) (a1:GCase):Option (Bool) :=
 some (decide (a0.At ≤ a1.Sign))
noncomputable def mslices_IndexFunc_api_Alter_api_Alter_s1_l1_s (a0:List GAlter) (a1:GCase) (p1:Int):Option ((Int) ⊕ (Unit ⊕ Int)) :=
 if decide (p1 < (a0.length:Int)) = true then
  (at? a0 p1).bind fun (x2:GAlter) =>
  (mrecord_Vars_1_s1 x2 a1).bind fun (r3:Bool) =>
  if r3 = true then
   some (.inr (.inr (p1)))
  else
   some (.inl (IntKind.wrap .i64 (p1 + 1)))
 else
  some (.inr (.inl ()))
noncomputable def mslices_IndexFunc_api_Alter_api_Alter_s1_l1 (a0:List GAlter) (a1:GCase) (p1:Int):Option (Unit ⊕ Int) :=
 Iter (fun (w:Int)=>mslices_IndexFunc_api_Alter_api_Alter_s1_l1_s a0 a1 w) p1
noncomputable def mslices_IndexFunc_api_Alter_api_Alter_s1 (a0:List GAlter) (a1:GCase):Option (Int) :=
 (mslices_IndexFunc_api_Alter_api_Alter_s1_l1 a0 a1 0).bind fun (r5:Unit ⊕ Int)=>Sum.elim (fun z6 =>
 some (-1)) (fun z7 =>
 some z7) r5
noncomputable def mslices_ContainsFunc_api_Alter_api_Alter_s1 (a0:List GAlter) (a1:GCase):Option (Bool) :=
 (mslices_IndexFunc_api_Alter_api_Alter_s1 a0 a1).bind fun (r1:Int) =>
 some (decide (r1 ≥ 0))
noncomputable def mrealm_in (a0:Int) (a1:Int):Option (Bool) :=
 if decide (a0 ≥ 0) = true then
  some (decide (a0 < a1))
 else
  some false
noncomputable def mrealm_OrderAt (a0:GRealm) (a1:Int):Option (Int) :=
 (mrealm_in a1 (a0.Cities.length:Int)).bind fun (r1:Bool) =>
 if (!(r1)) = true then
  some (-1)
 else
  (at? a0.Cities a1).bind fun (x2:GCity) =>
  some x2.Order
noncomputable def mrecord_truth (a0:Bool):Option (GCell) :=
 if a0 = true then
  some (GCell.mk true 1)
 else
  some (GCell.mk true 0)
noncomputable def mrecord_Fact_l1_s (a0:GFile) (a1:Int) (a2:Int) (p1:Int):Option ((Int) ⊕ (Unit ⊕ GCell)) :=
 if decide (p1 < (a0.Facts.length:Int)) = true then
  (at? a0.Facts p1).bind fun (x2:GFact) =>
  if (x2.Kind == a1) = true then
   if (x2.At == a2) = true then
    (mrecord_truth (x2.N != 0)).bind fun (r3:GCell) =>
    some (.inr (.inr (r3)))
   else
    some (.inl (IntKind.wrap .i64 (p1 + 1)))
  else
   some (.inl (IntKind.wrap .i64 (p1 + 1)))
 else
  some (.inr (.inl ()))
noncomputable def mrecord_Fact_l1 (a0:GFile) (a1:Int) (a2:Int) (p1:Int):Option (Unit ⊕ GCell) :=
 Iter (fun (w:Int)=>mrecord_Fact_l1_s a0 a1 a2 w) p1
noncomputable def mrecord_Fact (a0:GFile) (a1:Int) (a2:Int):Option (GCell) :=
 (mrecord_Fact_l1 a0 a1 a2 0).bind fun (r5:Unit ⊕ GCell)=>Sum.elim (fun z6 =>
 some (GCell.mk false 0)) (fun z7 =>
 some z7) r5
noncomputable def mrecord_Vars_j1 (a1:GCase) (p17:List GCell):Option ((List GCell)) :=
 (mrecord_Fact a1.File 3 (if 0 > a1.Holder then 0 else a1.Holder)).bind fun (r18:GCell) =>
 if 0 ≤ 18 ∧ 18 < p17.length then
  (p17[18]?).bind fun (x19:GCell) =>
  (mrecord_Fact a1.File 4 (if 0 > a1.Holder then 0 else a1.Holder)).bind fun (r20:GCell) =>
  if 0 ≤ 19 ∧ 19 < (p17.set 18 r18).length then
   ((p17.set 18 r18)[19]?).bind fun (x21:GCell) =>
   some ((p17.set 18 r18).set 19 r20)
  else none
 else none
noncomputable def mrecord_Vars_j2 (a1:GCase) (p10:List GCell):Option ((List GCell)) :=
 (mrecord_Fact a1.File 0 a1.Sign).bind fun (r11:GCell) =>
 if 0 ≤ 15 ∧ 15 < p10.length then
  (p10[15]?).bind fun (x12:GCell) =>
  (mrecord_Fact a1.File 1 a1.Sign).bind fun (r13:GCell) =>
  if 0 ≤ 16 ∧ 16 < (p10.set 15 r11).length then
   ((p10.set 15 r11)[16]?).bind fun (x14:GCell) =>
   (mrecord_Fact a1.File 2 a1.Sign).bind fun (r15:GCell) =>
   if 0 ≤ 17 ∧ 17 < ((p10.set 15 r11).set 16 r13).length then
    (((p10.set 15 r11).set 16 r13)[17]?).bind fun (x16:GCell) =>
    (mrecord_Vars_j1 a1 (((p10.set 15 r11).set 16 r13).set 17 r15)).bind fun (r23:(List GCell)) =>
    some (r23)
   else none
  else none
 else none
noncomputable def mrecord_Vars_j3 (a0:GRealm) (a1:GCase) (p5:Int) (x3:GSign) (p6:List GCell):Option ((List GCell)) :=
 (mslices_ContainsFunc_api_Alter_api_Alter_s1 a1.File.Alters a1).bind fun (r7:Bool) =>
 (mrealm_OrderAt a0 a1.File.Bill.City).bind fun (r8:Int) =>
 (mrealm_OrderAt a0 a1.File.Bill.Pay).bind fun (r9:Int) =>
 if 7 < p6.length then
  if 8 < (p6.set 7 (GCell.mk true (if ((IntKind.wrap .i64 (BitVec.ofInt (IntKind.bits .i64) a1.File.Bill.Flags &&& BitVec.ofInt (IntKind.bits .i64) 1).toNat) != 0) = true then 1 else 0))).length then
   if 9 < ((p6.set 7 (GCell.mk true (if ((IntKind.wrap .i64 (BitVec.ofInt (IntKind.bits .i64) a1.File.Bill.Flags &&& BitVec.ofInt (IntKind.bits .i64) 1).toNat) != 0) = true then 1 else 0))).set 8 (GCell.mk true (if (a1.File.Bill.Payee == (-1)) = true then 1 else 0))).length then
    if 10 < (((p6.set 7 (GCell.mk true (if ((IntKind.wrap .i64 (BitVec.ofInt (IntKind.bits .i64) a1.File.Bill.Flags &&& BitVec.ofInt (IntKind.bits .i64) 1).toNat) != 0) = true then 1 else 0))).set 8 (GCell.mk true (if (a1.File.Bill.Payee == (-1)) = true then 1 else 0))).set 9 (GCell.mk true (if ((IntKind.wrap .i64 (BitVec.ofInt (IntKind.bits .i64) a1.File.Bill.Flags &&& BitVec.ofInt (IntKind.bits .i64) 4).toNat) != 0) = true then 1 else 0))).length then
     if 11 < ((((p6.set 7 (GCell.mk true (if ((IntKind.wrap .i64 (BitVec.ofInt (IntKind.bits .i64) a1.File.Bill.Flags &&& BitVec.ofInt (IntKind.bits .i64) 1).toNat) != 0) = true then 1 else 0))).set 8 (GCell.mk true (if (a1.File.Bill.Payee == (-1)) = true then 1 else 0))).set 9 (GCell.mk true (if ((IntKind.wrap .i64 (BitVec.ofInt (IntKind.bits .i64) a1.File.Bill.Flags &&& BitVec.ofInt (IntKind.bits .i64) 4).toNat) != 0) = true then 1 else 0))).set 10 (GCell.mk true (if ((IntKind.wrap .i64 (BitVec.ofInt (IntKind.bits .i64) a1.File.Bill.Flags &&& BitVec.ofInt (IntKind.bits .i64) 2).toNat) != 0) = true then 1 else 0))).length then
      if 12 < (((((p6.set 7 (GCell.mk true (if ((IntKind.wrap .i64 (BitVec.ofInt (IntKind.bits .i64) a1.File.Bill.Flags &&& BitVec.ofInt (IntKind.bits .i64) 1).toNat) != 0) = true then 1 else 0))).set 8 (GCell.mk true (if (a1.File.Bill.Payee == (-1)) = true then 1 else 0))).set 9 (GCell.mk true (if ((IntKind.wrap .i64 (BitVec.ofInt (IntKind.bits .i64) a1.File.Bill.Flags &&& BitVec.ofInt (IntKind.bits .i64) 4).toNat) != 0) = true then 1 else 0))).set 10 (GCell.mk true (if ((IntKind.wrap .i64 (BitVec.ofInt (IntKind.bits .i64) a1.File.Bill.Flags &&& BitVec.ofInt (IntKind.bits .i64) 2).toNat) != 0) = true then 1 else 0))).set 11 (GCell.mk true (if (r8 != r9) = true then 1 else 0))).length then
       if 13 < ((((((p6.set 7 (GCell.mk true (if ((IntKind.wrap .i64 (BitVec.ofInt (IntKind.bits .i64) a1.File.Bill.Flags &&& BitVec.ofInt (IntKind.bits .i64) 1).toNat) != 0) = true then 1 else 0))).set 8 (GCell.mk true (if (a1.File.Bill.Payee == (-1)) = true then 1 else 0))).set 9 (GCell.mk true (if ((IntKind.wrap .i64 (BitVec.ofInt (IntKind.bits .i64) a1.File.Bill.Flags &&& BitVec.ofInt (IntKind.bits .i64) 4).toNat) != 0) = true then 1 else 0))).set 10 (GCell.mk true (if ((IntKind.wrap .i64 (BitVec.ofInt (IntKind.bits .i64) a1.File.Bill.Flags &&& BitVec.ofInt (IntKind.bits .i64) 2).toNat) != 0) = true then 1 else 0))).set 11 (GCell.mk true (if (r8 != r9) = true then 1 else 0))).set 12 (GCell.mk true (if r7 = true then 1 else 0))).length then
        if 14 < (((((((p6.set 7 (GCell.mk true (if ((IntKind.wrap .i64 (BitVec.ofInt (IntKind.bits .i64) a1.File.Bill.Flags &&& BitVec.ofInt (IntKind.bits .i64) 1).toNat) != 0) = true then 1 else 0))).set 8 (GCell.mk true (if (a1.File.Bill.Payee == (-1)) = true then 1 else 0))).set 9 (GCell.mk true (if ((IntKind.wrap .i64 (BitVec.ofInt (IntKind.bits .i64) a1.File.Bill.Flags &&& BitVec.ofInt (IntKind.bits .i64) 4).toNat) != 0) = true then 1 else 0))).set 10 (GCell.mk true (if ((IntKind.wrap .i64 (BitVec.ofInt (IntKind.bits .i64) a1.File.Bill.Flags &&& BitVec.ofInt (IntKind.bits .i64) 2).toNat) != 0) = true then 1 else 0))).set 11 (GCell.mk true (if (r8 != r9) = true then 1 else 0))).set 12 (GCell.mk true (if r7 = true then 1 else 0))).set 13 (GCell.mk true (if ((IntKind.wrap .i64 (BitVec.ofInt (IntKind.bits .i64) x3.Flags &&& BitVec.ofInt (IntKind.bits .i64) 1).toNat) != 0) = true then 1 else 0))).length then
         (mrecord_Vars_j2 a1 ((((((((p6.set 7 (GCell.mk true (if ((IntKind.wrap .i64 (BitVec.ofInt (IntKind.bits .i64) a1.File.Bill.Flags &&& BitVec.ofInt (IntKind.bits .i64) 1).toNat) != 0) = true then 1 else 0))).set 8 (GCell.mk true (if (a1.File.Bill.Payee == (-1)) = true then 1 else 0))).set 9 (GCell.mk true (if ((IntKind.wrap .i64 (BitVec.ofInt (IntKind.bits .i64) a1.File.Bill.Flags &&& BitVec.ofInt (IntKind.bits .i64) 4).toNat) != 0) = true then 1 else 0))).set 10 (GCell.mk true (if ((IntKind.wrap .i64 (BitVec.ofInt (IntKind.bits .i64) a1.File.Bill.Flags &&& BitVec.ofInt (IntKind.bits .i64) 2).toNat) != 0) = true then 1 else 0))).set 11 (GCell.mk true (if (r8 != r9) = true then 1 else 0))).set 12 (GCell.mk true (if r7 = true then 1 else 0))).set 13 (GCell.mk true (if ((IntKind.wrap .i64 (BitVec.ofInt (IntKind.bits .i64) x3.Flags &&& BitVec.ofInt (IntKind.bits .i64) 1).toNat) != 0) = true then 1 else 0))).set 14 (GCell.mk true (if (decide (p5 > 0)) = true then 1 else 0)))).bind fun (r25:(List GCell)) =>
         some (r25)
        else none
       else none
      else none
     else none
    else none
   else none
  else none
 else none
noncomputable def mrecord_Vars_j4 (a0:GRealm) (a1:GCase) (x3:GSign) (p5:Int):Option ((List GCell)) :=
 if 0 ≤ 20 ∧ 20 ≤ 20 ∧ 16 * 20 ≤ 281474976710656 ∧ 20 ≤ 9223372036854775807 then
  if 0 < (List.replicate 20 (GCell.mk false 0)).length then
   if 1 < ((List.replicate 20 (GCell.mk false 0)).set 0 (GCell.mk true a1.File.Bill.Sum)).length then
    if 2 < (((List.replicate 20 (GCell.mk false 0)).set 0 (GCell.mk true a1.File.Bill.Sum)).set 1 (GCell.mk true a1.File.Bill.Parts)).length then
     if 3 < ((((List.replicate 20 (GCell.mk false 0)).set 0 (GCell.mk true a1.File.Bill.Sum)).set 1 (GCell.mk true a1.File.Bill.Parts)).set 2 (GCell.mk true a1.File.Bill.Tenor.Kind)).length then
      if 4 < (((((List.replicate 20 (GCell.mk false 0)).set 0 (GCell.mk true a1.File.Bill.Sum)).set 1 (GCell.mk true a1.File.Bill.Parts)).set 2 (GCell.mk true a1.File.Bill.Tenor.Kind)).set 3 (GCell.mk true a1.File.Bill.Rate)).length then
       if 5 < ((((((List.replicate 20 (GCell.mk false 0)).set 0 (GCell.mk true a1.File.Bill.Sum)).set 1 (GCell.mk true a1.File.Bill.Parts)).set 2 (GCell.mk true a1.File.Bill.Tenor.Kind)).set 3 (GCell.mk true a1.File.Bill.Rate)).set 4 (GCell.mk true x3.Kind)).length then
        if 6 < (((((((List.replicate 20 (GCell.mk false 0)).set 0 (GCell.mk true a1.File.Bill.Sum)).set 1 (GCell.mk true a1.File.Bill.Parts)).set 2 (GCell.mk true a1.File.Bill.Tenor.Kind)).set 3 (GCell.mk true a1.File.Bill.Rate)).set 4 (GCell.mk true x3.Kind)).set 5 (GCell.mk true a1.Defence)).length then
         (mrecord_Vars_j3 a0 a1 p5 x3 ((((((((List.replicate 20 (GCell.mk false 0)).set 0 (GCell.mk true a1.File.Bill.Sum)).set 1 (GCell.mk true a1.File.Bill.Parts)).set 2 (GCell.mk true a1.File.Bill.Tenor.Kind)).set 3 (GCell.mk true a1.File.Bill.Rate)).set 4 (GCell.mk true x3.Kind)).set 5 (GCell.mk true a1.Defence)).set 6 (GCell.mk true p5))).bind fun (r27:(List GCell)) =>
         some (r27)
        else none
       else none
      else none
     else none
    else none
   else none
  else none
 else none
noncomputable def mrecord_Vars_j5 (a0:GRealm) (a1:GCase):Option ((List GCell)) :=
 (at? a1.File.Signs a1.Sign).bind fun (x3:GSign) =>
 (mrecord_within x3.Day 100001).bind fun (r4:Bool) =>
 if (!(r4)) = true then
  some ([])
 else
  if (a1.Due != (-1)) = true then
   (mrecord_Vars_j4 a0 a1 x3 (IntKind.wrap .i64 (x3.Day - a1.Due))).bind fun (r29:(List GCell)) =>
   some (r29)
  else
   (mrecord_Vars_j4 a0 a1 x3 0).bind fun (r30:(List GCell)) =>
   some (r30)
noncomputable def mrecord_Vars (a0:GRealm) (a1:GCase):Option ((List GCell)) :=
 (mrecord_within a1.Sign (a1.File.Signs.length:Int)).bind fun (r1:Bool) =>
 if (!(r1)) = true then
  some []
 else
  if decide (a1.Holder < (-1)) = true then
   some []
  else
   if decide ((if 0 > a1.Holder then 0 else a1.Holder) ≥ (a1.File.Signs.length:Int)) = true then
    some []
   else
    if (a1.Due != (-1)) = true then
     (mrecord_within a1.Due 100001).bind fun (r2:Bool) =>
     if (!(r2)) = true then
      some []
     else
      (mrecord_Vars_j5 a0 a1).bind fun (r32:(List GCell)) =>
      some r32
    else
     (mrecord_Vars_j5 a0 a1).bind fun (r33:(List GCell)) =>
     some r33
noncomputable def mslices_Min_int_int_l1_s (a0:List Int) (p2:Int) (p3:Int):Option ((Int × Int) ⊕ (Int)) :=
 if decide (p3 < (a0.length:Int)) = true then
  (at? a0 p3).bind fun (x4:Int) =>
  some (.inl ((if x4 < p2 then x4 else p2),IntKind.wrap .i64 (p3 + 1)))
 else
  some (.inr (p2))
noncomputable def mslices_Min_int_int_l1 (a0:List Int) (p2:Int) (p3:Int):Option (Int) :=
 Iter (fun (w:Int × Int)=>mslices_Min_int_int_l1_s a0 w.1 w.2) (p2,p3)
noncomputable def mslices_Min_int_int (a0:List Int):Option (Int) :=
 if decide ((a0.length:Int) < 1) = true then
  none
 else
  (at? a0 0).bind fun (x1:Int) =>
  (mslices_Min_int_int_l1 a0 x1 1).bind fun (r6:Int) =>
  some r6
noncomputable def mrecord_Seen_l1_s (a0:GFile) (p1:Int) (p2:List Int):Option ((Int × (List Int)) ⊕ ((List Int))) :=
 if decide (p1 < (a0.Signs.length:Int)) = true then
  (at? a0.Signs p1).bind fun (x3:GSign) =>
  if (a0.Bill.Tenor.Kind == 1) = true then
   if (x3.Kind == 1) = true then
    if (p2.length + 1) * 8 ≤ 140737488355328 then
     some (.inl (IntKind.wrap .i64 (p1 + 1),p2 ++ [x3.Day]))
    else none
   else
    some (.inl (IntKind.wrap .i64 (p1 + 1),p2))
  else
   some (.inl (IntKind.wrap .i64 (p1 + 1),p2))
 else
  some (.inr (p2))
noncomputable def mrecord_Seen_l1 (a0:GFile) (p1:Int) (p2:List Int):Option ((List Int)) :=
 Iter (fun (w:Int × (List Int))=>mrecord_Seen_l1_s a0 w.1 w.2) (p1,p2)
noncomputable def mrecord_Seen_j2 (a0:GFile) (p6:Int) (p7:List Int) (x8:GAct):Option ((List Int)) :=
 if (a0.Bill.Tenor.Kind == 1) = true then
  if (x8.Kind == 1) = true then
   if (p7.length + 1) * 8 ≤ 140737488355328 then
    some (p7 ++ [x8.Day])
   else none
  else
   some (p7)
 else
  some (p7)
noncomputable def mrecord_Seen_l3_s (a0:GFile) (p6:Int) (p7:List Int):Option ((Int × (List Int)) ⊕ (((List Int)) ⊕ Int)) :=
 if decide (p6 < (a0.Acts.length:Int)) = true then
  (at? a0.Acts p6).bind fun (x8:GAct) =>
  if (a0.Bill.Tenor.Kind == 0) = true then
   if (x8.Kind == 2) = true then
    some (.inr (.inr (x8.Day)))
   else
    (mrecord_Seen_j2 a0 p6 p7 x8).bind fun (r10:(List Int)) =>
    some (.inl (IntKind.wrap .i64 (p6 + 1),r10))
  else
   (mrecord_Seen_j2 a0 p6 p7 x8).bind fun (r11:(List Int)) =>
   some (.inl (IntKind.wrap .i64 (p6 + 1),r11))
 else
  some (.inr (.inl p7))
noncomputable def mrecord_Seen_l3 (a0:GFile) (p6:Int) (p7:List Int):Option (((List Int)) ⊕ Int) :=
 Iter (fun (w:Int × (List Int))=>mrecord_Seen_l3_s a0 w.1 w.2) (p6,p7)
noncomputable def mrecord_Seen (a0:GFile):Option (Int) :=
 (mrecord_Seen_l1 a0 0 []).bind fun (r5:(List Int)) =>
 (mrecord_Seen_l3 a0 0 r5).bind fun (r14:((List Int)) ⊕ Int)=>Sum.elim (fun z15 =>
 if ((z15.length:Int) == 0) = true then
   some (-1)
  else
   (mslices_Min_int_int z15).bind fun (r17:Int) =>
   some r17) (fun z16 =>
 some z16) r14
noncomputable def mallongelaw14_sane_j1 (p8:Bool) (r1:GFile) (p15:Bool):Option (Bool) :=
 if p8 = true then
  if p15 = true then
   (mrecord_Fact r1 0 2).bind fun (r16:GCell) =>
   if r16.Known = true then
    (mrecord_Fact r1 2 2).bind fun (r17:GCell) =>
    some (!(r17.Known))
   else
    some (false)
  else
   some (false)
 else
  some (false)
noncomputable def mallongelaw14_sane_j2 (r1:GFile) (r4:(List GCell)) (p8:Bool):Option (Bool) :=
 (at? r4 0).bind fun (x9:GCell) =>
 if (x9.N == 100) = true then
  (at? r4 6).bind fun (x10:GCell) =>
  if (x10.N == 2) = true then
   (at? r4 14).bind fun (x11:GCell) =>
   if (x11.N == 1) = true then
    (at? r4 15).bind fun (x12:GCell) =>
    if ((x12.Known == true) && (x12.N == 1)) = true then
     (at? r4 16).bind fun (x13:GCell) =>
     if (!(x13.Known)) = true then
      (at? r4 12).bind fun (x14:GCell) =>
      (mallongelaw14_sane_j1 p8 r1 x14.Known).bind fun (r19:Bool) =>
      some (r19)
     else
      (mallongelaw14_sane_j1 p8 r1 false).bind fun (r20:Bool) =>
      some (r20)
    else
     (mallongelaw14_sane_j1 p8 r1 false).bind fun (r21:Bool) =>
     some (r21)
   else
    (mallongelaw14_sane_j1 p8 r1 false).bind fun (r22:Bool) =>
    some (r22)
  else
   (mallongelaw14_sane_j1 p8 r1 false).bind fun (r23:Bool) =>
   some (r23)
 else
  (mallongelaw14_sane_j1 p8 r1 false).bind fun (r24:Bool) =>
  some (r24)
noncomputable def mallongelaw14_sane:Option (Bool) :=
 (mallongelaw14_papers).bind fun (r1:GFile) =>
 (mrecord_At r1 7).bind fun (r2:GFile) =>
 (mallongelaw14_example).bind fun (r3:GRealm) =>
 (mrecord_Vars r3 (GCase.mk r1 2 (-1) (-1) 6 9)).bind fun (r4:(List GCell)) =>
 if ((r4.length:Int) != 20) = true then
  some false
 else
  if ((r2.Signs.length:Int) == 2) = true then
   if ((r2.Acts.length:Int) == 1) = true then
    if ((r2.Facts.length:Int) == 0) = true then
     (mrecord_Seen r1).bind fun (r5:Int) =>
     if (r5 == 4) = true then
      (mrecord_At r1 3).bind fun (r6:GFile) =>
      (mrecord_Seen r6).bind fun (r7:Int) =>
      (mallongelaw14_sane_j2 r1 r4 (r7 == (-1))).bind fun (r26:Bool) =>
      some r26
     else
      (mallongelaw14_sane_j2 r1 r4 false).bind fun (r27:Bool) =>
      some r27
    else
     (mallongelaw14_sane_j2 r1 r4 false).bind fun (r28:Bool) =>
     some r28
   else
    (mallongelaw14_sane_j2 r1 r4 false).bind fun (r29:Bool) =>
    some r29
  else
   (mallongelaw14_sane_j2 r1 r4 false).bind fun (r30:Bool) =>
   some r30
noncomputable def mallongeref09_Few_l1_s (a0:GRealm) (p1:Int):Option ((Int) ⊕ (Unit ⊕ Unit)) :=
 if decide (p1 < (a0.Cities.length:Int)) = true then
  if decide (p1 < 50) = true then
   (at? a0.Cities p1).bind fun (x2:GCity) =>
   if decide ((x2.Feasts.length:Int) > 70) = true then
    some (.inr (.inr (())))
   else
    (at? a0.Cities p1).bind fun (x3:GCity) =>
    if decide ((x3.Shut.length:Int) > 210) = true then
     some (.inr (.inr (())))
    else
     (at? a0.Cities p1).bind fun (x4:GCity) =>
     if decide ((x4.Rest.length:Int) > 8) = true then
      some (.inr (.inr (())))
     else
      some (.inl (IntKind.wrap .i64 (p1 + 1)))
  else
   some (.inr (.inl ()))
 else
  some (.inr (.inl ()))
noncomputable def mallongeref09_Few_l1 (a0:GRealm) (p1:Int):Option (Unit ⊕ Unit) :=
 Iter (fun (w:Int)=>mallongeref09_Few_l1_s a0 w) p1
noncomputable def mallongeref09_Few_l2_s (a0:GRealm) (p8:Int):Option ((Int) ⊕ (Unit ⊕ Unit)) :=
 if decide (p8 < (a0.Orders.length:Int)) = true then
  if decide (p8 < 50) = true then
   (at? a0.Orders p8).bind fun (x9:GOrder) =>
   if decide ((x9.Choices.length:Int) > 40) = true then
    some (.inr (.inr (())))
   else
    (at? a0.Orders p8).bind fun (x10:GOrder) =>
    if decide ((x10.Rules.length:Int) > 40) = true then
     some (.inr (.inr (())))
    else
     some (.inl (IntKind.wrap .i64 (p8 + 1)))
  else
   some (.inr (.inl ()))
 else
  some (.inr (.inl ()))
noncomputable def mallongeref09_Few_l2 (a0:GRealm) (p8:Int):Option (Unit ⊕ Unit) :=
 Iter (fun (w:Int)=>mallongeref09_Few_l2_s a0 w) p8
noncomputable def mallongeref09_Few (a0:GRealm):Option (Bool) :=
 (mallongeref09_Few_l1 a0 0).bind fun (r5:Unit ⊕ Unit)=>Sum.elim (fun z6 =>
 (mallongeref09_Few_l2 a0 0).bind fun (r11:Unit ⊕ Unit)=>Sum.elim (fun z12 =>
  if decide ((a0.Currencies.length:Int) < 50) = true then
    if decide ((a0.Cities.length:Int) < 50) = true then
     if decide ((a0.Groups.length:Int) < 50) = true then
      if decide ((a0.Firms.length:Int) < 210) = true then
       if decide ((a0.Orders.length:Int) < 50) = true then
        if decide ((a0.Usances.length:Int) < 110) = true then
         if decide ((a0.Rates.length:Int) < 110) = true then
          some (decide ((a0.Halts.length:Int) < 50))
         else
          some false
        else
         some false
       else
        some false
      else
       some false
     else
      some false
    else
     some false
   else
    some false) (fun z13 =>
  some false) r11) (fun z7 =>
 some false) r5
noncomputable def mallongeref14_Few (a0:GFile):Option (Bool) :=
 if decide ((a0.Signs.length:Int) ≤ 50) = true then
  if decide ((a0.Alters.length:Int) ≤ 10) = true then
   if decide ((a0.Acts.length:Int) ≤ 110) = true then
    some (decide ((a0.Facts.length:Int) ≤ 220))
   else
    some false
  else
   some false
 else
  some false
noncomputable def mallongeref14_Seen_l1_s (a0:GFile) (p1:Int):Option ((Int) ⊕ (Unit ⊕ Int)) :=
 if decide (p1 < (a0.Acts.length:Int)) = true then
  (at? a0.Acts p1).bind fun (x2:GAct) =>
  if (x2.Kind == 2) = true then
   (at? a0.Acts p1).bind fun (x3:GAct) =>
   some (.inr (.inr (x3.Day)))
  else
   some (.inl (IntKind.wrap .i64 (p1 + 1)))
 else
  some (.inr (.inl ()))
noncomputable def mallongeref14_Seen_l1 (a0:GFile) (p1:Int):Option (Unit ⊕ Int) :=
 Iter (fun (w:Int)=>mallongeref14_Seen_l1_s a0 w) p1
noncomputable def mallongeref14_Seen_l2_s (a0:GFile) (p8:Bool) (p9:Int) (p10:Int):Option ((Bool × Int × Int) ⊕ (Bool × Int)) :=
 if decide (p10 < (a0.Signs.length:Int)) = true then
  (at? a0.Signs p10).bind fun (x11:GSign) =>
  if (x11.Kind == 1) = true then
   if (!(p8)) = true then
    (at? a0.Signs p10).bind fun (x13:GSign) =>
    some (.inl (true,x13.Day,IntKind.wrap .i64 (p10 + 1)))
   else
    (at? a0.Signs p10).bind fun (x12:GSign) =>
    if decide (x12.Day < p9) = true then
     (at? a0.Signs p10).bind fun (x14:GSign) =>
     some (.inl (true,x14.Day,IntKind.wrap .i64 (p10 + 1)))
    else
     some (.inl (p8,p9,IntKind.wrap .i64 (p10 + 1)))
  else
   some (.inl (p8,p9,IntKind.wrap .i64 (p10 + 1)))
 else
  some (.inr ((p8,p9)))
noncomputable def mallongeref14_Seen_l2 (a0:GFile) (p8:Bool) (p9:Int) (p10:Int):Option (Bool × Int) :=
 Iter (fun (w:Bool × Int × Int)=>mallongeref14_Seen_l2_s a0 w.1 w.2.1 w.2.2) (p8,p9,p10)
noncomputable def mallongeref14_Seen_l3_s (a0:GFile) (p18:Bool) (p19:Int) (p20:Int):Option ((Bool × Int × Int) ⊕ (Bool × Int)) :=
 if decide (p20 < (a0.Acts.length:Int)) = true then
  (at? a0.Acts p20).bind fun (x21:GAct) =>
  if (x21.Kind == 1) = true then
   if (!(p18)) = true then
    (at? a0.Acts p20).bind fun (x23:GAct) =>
    some (.inl (true,x23.Day,IntKind.wrap .i64 (p20 + 1)))
   else
    (at? a0.Acts p20).bind fun (x22:GAct) =>
    if decide (x22.Day < p19) = true then
     (at? a0.Acts p20).bind fun (x24:GAct) =>
     some (.inl (true,x24.Day,IntKind.wrap .i64 (p20 + 1)))
    else
     some (.inl (p18,p19,IntKind.wrap .i64 (p20 + 1)))
  else
   some (.inl (p18,p19,IntKind.wrap .i64 (p20 + 1)))
 else
  some (.inr ((p18,p19)))
noncomputable def mallongeref14_Seen_l3 (a0:GFile) (p18:Bool) (p19:Int) (p20:Int):Option (Bool × Int) :=
 Iter (fun (w:Bool × Int × Int)=>mallongeref14_Seen_l3_s a0 w.1 w.2.1 w.2.2) (p18,p19,p20)
noncomputable def mallongeref14_Seen (a0:GFile):Option (Int) :=
 if (a0.Bill.Tenor.Kind == 0) = true then
  (mallongeref14_Seen_l1 a0 0).bind fun (r5:Unit ⊕ Int)=>Sum.elim (fun z6 =>
  some (-1)) (fun z7 =>
  some z7) r5
 else
  (mallongeref14_Seen_l2 a0 false 0 0).bind fun (r17:Bool × Int) =>
  (mallongeref14_Seen_l3 a0 r17.1 r17.2 0).bind fun (r27:Bool × Int) =>
  if (a0.Bill.Tenor.Kind != 1) = true then
   some (-1)
  else
   if (!(r27.1)) = true then
    some (-1)
   else
    some r27.2
noncomputable def mallongeref14_Fact_l1_s (a0:GFile) (a1:Int) (a2:Int) (p1:Int):Option ((Int) ⊕ (Unit ⊕ Int)) :=
 if decide (p1 < (a0.Facts.length:Int)) = true then
  (at? a0.Facts p1).bind fun (x2:GFact) =>
  if (x2.Kind == a1) = true then
   (at? a0.Facts p1).bind fun (x3:GFact) =>
   if (x3.At == a2) = true then
    (at? a0.Facts p1).bind fun (x4:GFact) =>
    if (x4.N == 0) = true then
     some (.inr (.inr (0)))
    else
     some (.inr (.inr (1)))
   else
    some (.inl (IntKind.wrap .i64 (p1 + 1)))
  else
   some (.inl (IntKind.wrap .i64 (p1 + 1)))
 else
  some (.inr (.inl ()))
noncomputable def mallongeref14_Fact_l1 (a0:GFile) (a1:Int) (a2:Int) (p1:Int):Option (Unit ⊕ Int) :=
 Iter (fun (w:Int)=>mallongeref14_Fact_l1_s a0 a1 a2 w) p1
noncomputable def mallongeref14_Fact (a0:GFile) (a1:Int) (a2:Int):Option (GCell) :=
 (mallongeref14_Fact_l1 a0 a1 a2 0).bind fun (r6:Unit ⊕ Int)=>Sum.elim (fun z7 =>
 some (GCell.mk false 0)) (fun z8 =>
 some (GCell.mk true z8)) r6
noncomputable def mallongeref14_At_l1_s (a0:GFile) (a1:Int) (p1:Int):Option ((Int) ⊕ (Int)) :=
 if decide (p1 < (a0.Signs.length:Int)) = true then
  (at? a0.Signs p1).bind fun (x2:GSign) =>
  if decide (x2.Day ≤ a1) = true then
   some (.inl (IntKind.wrap .i64 (p1 + 1)))
  else
   some (.inr (p1))
 else
  some (.inr (p1))
noncomputable def mallongeref14_At_l1 (a0:GFile) (a1:Int) (p1:Int):Option (Int) :=
 Iter (fun (w:Int)=>mallongeref14_At_l1_s a0 a1 w) p1
noncomputable def mallongeref14_At_l2_s (a0:GFile) (a1:Int) (r4:Int) (p5:Int):Option ((Int) ⊕ (Int)) :=
 if decide (p5 < (a0.Acts.length:Int)) = true then
  (at? a0.Acts p5).bind fun (x6:GAct) =>
  if decide (x6.Day ≤ a1) = true then
   some (.inl (IntKind.wrap .i64 (p5 + 1)))
  else
   some (.inr (p5))
 else
  some (.inr (p5))
noncomputable def mallongeref14_At_l2 (a0:GFile) (a1:Int) (r4:Int) (p5:Int):Option (Int) :=
 Iter (fun (w:Int)=>mallongeref14_At_l2_s a0 a1 r4 w) p5
noncomputable def mallongeref14_At_l3_s (a0:GFile) (r4:Int) (r8:Int) (p9:Int) (p10:List GAlter):Option ((Int × (List GAlter)) ⊕ ((List GAlter))) :=
 if decide (p9 < (a0.Alters.length:Int)) = true then
  (at? a0.Alters p9).bind fun (x11:GAlter) =>
  if decide (x11.At ≤ r4) = true then
   (at? a0.Alters p9).bind fun (x12:GAlter) =>
   if (p10.length + 1) * 16 ≤ 140737488355328 then
    some (.inl (IntKind.wrap .i64 (p9 + 1),p10 ++ [x12]))
   else none
  else
   some (.inl (IntKind.wrap .i64 (p9 + 1),p10))
 else
  some (.inr (p10))
noncomputable def mallongeref14_At_l3 (a0:GFile) (r4:Int) (r8:Int) (p9:Int) (p10:List GAlter):Option ((List GAlter)) :=
 Iter (fun (w:Int × (List GAlter))=>mallongeref14_At_l3_s a0 r4 r8 w.1 w.2) (p9,p10)
noncomputable def mallongeref14_At_l4_s (a0:GFile) (r14:(List GAlter)) (r4:Int) (r8:Int) (p15:Int) (p16:List GFact):Option ((Int × (List GFact)) ⊕ ((List GFact))) :=
 if decide (p15 < (a0.Facts.length:Int)) = true then
  (at? a0.Facts p15).bind fun (x17:GFact) =>
  if decide (x17.At ≥ 0) = true then
   (at? a0.Facts p15).bind fun (x18:GFact) =>
   if decide (x18.At < r4) = true then
    (at? a0.Facts p15).bind fun (x19:GFact) =>
    if (p16.length + 1) * 24 ≤ 140737488355328 then
     some (.inl (IntKind.wrap .i64 (p15 + 1),p16 ++ [x19]))
    else none
   else
    some (.inl (IntKind.wrap .i64 (p15 + 1),p16))
  else
   some (.inl (IntKind.wrap .i64 (p15 + 1),p16))
 else
  some (.inr (p16))
noncomputable def mallongeref14_At_l4 (a0:GFile) (r14:(List GAlter)) (r4:Int) (r8:Int) (p15:Int) (p16:List GFact):Option ((List GFact)) :=
 Iter (fun (w:Int × (List GFact))=>mallongeref14_At_l4_s a0 r14 r4 r8 w.1 w.2) (p15,p16)
noncomputable def mallongeref14_At (a0:GFile) (a1:Int):Option (GFile) :=
 (mallongeref14_At_l1 a0 a1 0).bind fun (r4:Int) =>
 (mallongeref14_At_l2 a0 a1 r4 0).bind fun (r8:Int) =>
 if sliceOk a0.Signs.length 0 r4 then
  if (0 + (sliceL a0.Signs 0 r4).length) * 72 ≤ 140737488355328 then
   if sliceOk a0.Acts.length 0 r8 then
    if (0 + (sliceL a0.Acts 0 r8).length) * 72 ≤ 140737488355328 then
     (mallongeref14_At_l3 a0 r4 r8 0 []).bind fun (r14:(List GAlter)) =>
     (mallongeref14_At_l4 a0 r14 r4 r8 0 []).bind fun (r21:(List GFact)) =>
     some (GFile.mk a0.Bill (([]:List GSign) ++ (sliceL a0.Signs 0 r4)) r14 (([]:List GAct) ++ (sliceL a0.Acts 0 r8)) r21)
    else none
   else none
  else none
 else none
noncomputable def mallongeref14_Same_l1_s (a0:GFile) (a1:GFile) (p1:Int):Option ((Int) ⊕ (Unit ⊕ Unit)) :=
 if decide (p1 < (a0.Signs.length:Int)) = true then
  (at? a0.Signs p1).bind fun (x2:GSign) =>
  (at? a1.Signs p1).bind fun (x3:GSign) =>
  if (!((x2.Kind == x3.Kind) && ((x2.Part == x3.Part) && ((x2.Who == x3.Who) && ((x2.For == x3.For) && ((x2.To == x3.To) && ((x2.Sum == x3.Sum) && ((x2.Day == x3.Day) && ((x2.City == x3.City) && (x2.Flags == x3.Flags)))))))))) = true then
   some (.inr (.inr (())))
  else
   some (.inl (IntKind.wrap .i64 (p1 + 1)))
 else
  some (.inr (.inl ()))
noncomputable def mallongeref14_Same_l1 (a0:GFile) (a1:GFile) (p1:Int):Option (Unit ⊕ Unit) :=
 Iter (fun (w:Int)=>mallongeref14_Same_l1_s a0 a1 w) p1
noncomputable def mallongeref14_Same_l2_s (a0:GFile) (a1:GFile) (p7:Int):Option ((Int) ⊕ (Unit ⊕ Unit)) :=
 if decide (p7 < (a0.Alters.length:Int)) = true then
  (at? a0.Alters p7).bind fun (x8:GAlter) =>
  (at? a1.Alters p7).bind fun (x9:GAlter) =>
  if (!((x8.At == x9.At) && (x8.Sum == x9.Sum))) = true then
   some (.inr (.inr (())))
  else
   some (.inl (IntKind.wrap .i64 (p7 + 1)))
 else
  some (.inr (.inl ()))
noncomputable def mallongeref14_Same_l2 (a0:GFile) (a1:GFile) (p7:Int):Option (Unit ⊕ Unit) :=
 Iter (fun (w:Int)=>mallongeref14_Same_l2_s a0 a1 w) p7
noncomputable def mallongeref14_Same_l3_s (a0:GFile) (a1:GFile) (p13:Int):Option ((Int) ⊕ (Unit ⊕ Unit)) :=
 if decide (p13 < (a0.Acts.length:Int)) = true then
  (at? a0.Acts p13).bind fun (x14:GAct) =>
  (at? a1.Acts p13).bind fun (x15:GAct) =>
  if (!((x14.Kind == x15.Kind) && ((x14.Who == x15.Who) && ((x14.To == x15.To) && ((x14.Part == x15.Part) && ((x14.At == x15.At) && ((x14.Sum == x15.Sum) && ((x14.Day == x15.Day) && ((x14.City == x15.City) && (x14.Form == x15.Form)))))))))) = true then
   some (.inr (.inr (())))
  else
   some (.inl (IntKind.wrap .i64 (p13 + 1)))
 else
  some (.inr (.inl ()))
noncomputable def mallongeref14_Same_l3 (a0:GFile) (a1:GFile) (p13:Int):Option (Unit ⊕ Unit) :=
 Iter (fun (w:Int)=>mallongeref14_Same_l3_s a0 a1 w) p13
noncomputable def mallongeref14_Same_l4_s (a0:GFile) (a1:GFile) (p19:Int):Option ((Int) ⊕ (Unit ⊕ Unit)) :=
 if decide (p19 < (a0.Facts.length:Int)) = true then
  (at? a0.Facts p19).bind fun (x20:GFact) =>
  (at? a1.Facts p19).bind fun (x21:GFact) =>
  if (!((x20.Kind == x21.Kind) && ((x20.At == x21.At) && (x20.N == x21.N)))) = true then
   some (.inr (.inr (())))
  else
   some (.inl (IntKind.wrap .i64 (p19 + 1)))
 else
  some (.inr (.inl ()))
noncomputable def mallongeref14_Same_l4 (a0:GFile) (a1:GFile) (p19:Int):Option (Unit ⊕ Unit) :=
 Iter (fun (w:Int)=>mallongeref14_Same_l4_s a0 a1 w) p19
noncomputable def mallongeref14_Same (a0:GFile) (a1:GFile):Option (Bool) :=
 if (!((a0.Bill.Drawer == a1.Bill.Drawer) && ((a0.Bill.Drawee == a1.Bill.Drawee) && ((a0.Bill.Payee == a1.Bill.Payee) && ((a0.Bill.Sum == a1.Bill.Sum) && ((a0.Bill.Currency == a1.Bill.Currency) && ((a0.Bill.Tenor.Kind == a1.Bill.Tenor.Kind) && ((a0.Bill.Tenor.N == a1.Bill.Tenor.N) && ((a0.Bill.Tenor.Unit == a1.Bill.Tenor.Unit) && ((a0.Bill.Day == a1.Bill.Day) && ((a0.Bill.City == a1.Bill.City) && ((a0.Bill.Pay == a1.Bill.Pay) && ((a0.Bill.Need == a1.Bill.Need) && ((a0.Bill.Rate == a1.Bill.Rate) && ((a0.Bill.Flags == a1.Bill.Flags) && (a0.Bill.Parts == a1.Bill.Parts)))))))))))))))) = true then
  some false
 else
  if ((a0.Signs.length:Int) != (a1.Signs.length:Int)) = true then
   some false
  else
   if ((a0.Alters.length:Int) != (a1.Alters.length:Int)) = true then
    some false
   else
    if ((a0.Acts.length:Int) != (a1.Acts.length:Int)) = true then
     some false
    else
     if ((a0.Facts.length:Int) != (a1.Facts.length:Int)) = true then
      some false
     else
      (mallongeref14_Same_l1 a0 a1 0).bind fun (r4:Unit ⊕ Unit)=>Sum.elim (fun z5 =>
      (mallongeref14_Same_l2 a0 a1 0).bind fun (r10:Unit ⊕ Unit)=>Sum.elim (fun z11 =>
       (mallongeref14_Same_l3 a0 a1 0).bind fun (r16:Unit ⊕ Unit)=>Sum.elim (fun z17 =>
        (mallongeref14_Same_l4 a0 a1 0).bind fun (r22:Unit ⊕ Unit)=>Sum.elim (fun z23 =>
         some true) (fun z24 =>
         some false) r22) (fun z18 =>
        some false) r16) (fun z12 =>
       some false) r10) (fun z6 =>
      some false) r4
noncomputable def mallongeref14_number (a0:Int):Option (GCell) :=
 some (GCell.mk true a0)
noncomputable def mallongeref14_truth (a0:Bool):Option (GCell) :=
 if a0 = true then
  (mallongeref14_number 1).bind fun (r1:GCell) =>
  some r1
 else
  (mallongeref14_number 0).bind fun (r2:GCell) =>
  some r2
noncomputable def mallongeref14_has (a0:Int) (a1:Int):Option (Bool) :=
 some ((IntKind.wrap .i64 (BitVec.ofInt (IntKind.bits .i64) a0 &&& BitVec.ofInt (IntKind.bits .i64) a1).toNat) == a1)
noncomputable def mallongeref09_Within (a0:Int) (a1:Int) (a2:Int):Option (Bool) :=
 if decide (a1 ≤ a0) = true then
  some (decide (a0 ≤ a2))
 else
  some false
noncomputable def mallongeref09_OrderAt (a0:GRealm) (a1:Int):Option (Int) :=
 (mallongeref09_Within a1 0 (IntKind.wrap .i64 ((a0.Cities.length:Int) - 1))).bind fun (r1:Bool) =>
 if r1 = true then
  (at? a0.Cities a1).bind fun (x2:GCity) =>
  some x2.Order
 else
  some (-1)
noncomputable def mallongeref14_Vars_l1_s (a1:GCase) (p33:List GCell) (r36:GCell) (x1:GSign) (p38:Bool) (p39:Int):Option ((Bool × Int) ⊕ (Bool)) :=
 if decide (p39 < (a1.File.Alters.length:Int)) = true then
  if p38 = true then
   some (.inl (true,IntKind.wrap .i64 (p39 + 1)))
  else
   (at? a1.File.Alters p39).bind fun (x40:GAlter) =>
   some (.inl (decide (x40.At ≤ a1.Sign),IntKind.wrap .i64 (p39 + 1)))
 else
  some (.inr (p38))
noncomputable def mallongeref14_Vars_l1 (a1:GCase) (p33:List GCell) (r36:GCell) (x1:GSign) (p38:Bool) (p39:Int):Option (Bool) :=
 Iter (fun (w:Bool × Int)=>mallongeref14_Vars_l1_s a1 p33 r36 x1 w.1 w.2) (p38,p39)
noncomputable def mallongeref14_Vars_j2 (a1:GCase) (p55:List GCell):Option ((List GCell)) :=
 (mallongeref14_Fact a1.File 3 (if 0 > a1.Holder then 0 else a1.Holder)).bind fun (r56:GCell) =>
 if 0 ≤ 18 ∧ 18 < p55.length then
  (p55[18]?).bind fun (x57:GCell) =>
  (mallongeref14_Fact a1.File 4 (if 0 > a1.Holder then 0 else a1.Holder)).bind fun (r58:GCell) =>
  if 0 ≤ 19 ∧ 19 < (p55.set 18 r56).length then
   ((p55.set 18 r56)[19]?).bind fun (x59:GCell) =>
   some ((p55.set 18 r56).set 19 r58)
  else none
 else none
noncomputable def mallongeref14_Vars_j3 (a1:GCase) (p48:List GCell):Option ((List GCell)) :=
 (mallongeref14_Fact a1.File 0 a1.Sign).bind fun (r49:GCell) =>
 if 0 ≤ 15 ∧ 15 < p48.length then
  (p48[15]?).bind fun (x50:GCell) =>
  (mallongeref14_Fact a1.File 1 a1.Sign).bind fun (r51:GCell) =>
  if 0 ≤ 16 ∧ 16 < (p48.set 15 r49).length then
   ((p48.set 15 r49)[16]?).bind fun (x52:GCell) =>
   (mallongeref14_Fact a1.File 2 a1.Sign).bind fun (r53:GCell) =>
   if 0 ≤ 17 ∧ 17 < ((p48.set 15 r49).set 16 r51).length then
    (((p48.set 15 r49).set 16 r51)[17]?).bind fun (x54:GCell) =>
    (mallongeref14_Vars_j2 a1 (((p48.set 15 r49).set 16 r51).set 17 r53)).bind fun (r61:(List GCell)) =>
    some (r61)
   else none
  else none
 else none
noncomputable def mallongeref14_Vars_j4 (a0:GRealm) (a1:GCase) (x1:GSign) (p33:List GCell):Option ((List GCell)) :=
 (mallongeref09_OrderAt a0 a1.File.Bill.City).bind fun (r34:Int) =>
 (mallongeref09_OrderAt a0 a1.File.Bill.Pay).bind fun (r35:Int) =>
 (mallongeref14_truth (r34 != r35)).bind fun (r36:GCell) =>
 if 0 ≤ 11 ∧ 11 < p33.length then
  (p33[11]?).bind fun (x37:GCell) =>
  (mallongeref14_Vars_l1 a1 p33 r36 x1 false 0).bind fun (r42:Bool) =>
  (mallongeref14_truth r42).bind fun (r43:GCell) =>
  if 0 ≤ 12 ∧ 12 < (p33.set 11 r36).length then
   ((p33.set 11 r36)[12]?).bind fun (x44:GCell) =>
   (mallongeref14_has x1.Flags 1).bind fun (r45:Bool) =>
   (mallongeref14_truth r45).bind fun (r46:GCell) =>
   if 0 ≤ 13 ∧ 13 < ((p33.set 11 r36).set 12 r43).length then
    (((p33.set 11 r36).set 12 r43)[13]?).bind fun (x47:GCell) =>
    (mallongeref14_Vars_j3 a1 (((p33.set 11 r36).set 12 r43).set 13 r46)).bind fun (r63:(List GCell)) =>
    some (r63)
   else none
  else none
 else none
noncomputable def mallongeref14_Vars_j5 (a0:GRealm) (a1:GCase) (x1:GSign) (p24:List GCell):Option ((List GCell)) :=
 (mallongeref14_has a1.File.Bill.Flags 2).bind fun (r25:Bool) =>
 (mallongeref14_truth r25).bind fun (r26:GCell) =>
 if 0 ≤ 10 ∧ 10 < p24.length then
  (p24[10]?).bind fun (x27:GCell) =>
  (mallongeref14_has a1.File.Bill.Flags 4).bind fun (r28:Bool) =>
  (mallongeref14_truth r28).bind fun (r29:GCell) =>
  if 0 ≤ 9 ∧ 9 < (p24.set 10 r26).length then
   ((p24.set 10 r26)[9]?).bind fun (x30:GCell) =>
   (mallongeref14_truth (a1.File.Bill.Payee == (-1))).bind fun (r31:GCell) =>
   if 0 ≤ 8 ∧ 8 < ((p24.set 10 r26).set 9 r29).length then
    (((p24.set 10 r26).set 9 r29)[8]?).bind fun (x32:GCell) =>
    (mallongeref14_Vars_j4 a0 a1 x1 (((p24.set 10 r26).set 9 r29).set 8 r31)).bind fun (r65:(List GCell)) =>
    some (r65)
   else none
  else none
 else none
noncomputable def mallongeref14_Vars_j6 (a0:GRealm) (a1:GCase) (p15:List GCell) (x1:GSign) (p16:Int):Option ((List GCell)) :=
 (mallongeref14_number p16).bind fun (r17:GCell) =>
 if 0 ≤ 6 ∧ 6 < p15.length then
  (p15[6]?).bind fun (x18:GCell) =>
  (mallongeref14_truth (decide (p16 > 0))).bind fun (r19:GCell) =>
  if 0 ≤ 14 ∧ 14 < (p15.set 6 r17).length then
   ((p15.set 6 r17)[14]?).bind fun (x20:GCell) =>
   (mallongeref14_has a1.File.Bill.Flags 1).bind fun (r21:Bool) =>
   (mallongeref14_truth r21).bind fun (r22:GCell) =>
   if 0 ≤ 7 ∧ 7 < ((p15.set 6 r17).set 14 r19).length then
    (((p15.set 6 r17).set 14 r19)[7]?).bind fun (x23:GCell) =>
    (mallongeref14_Vars_j5 a0 a1 x1 (((p15.set 6 r17).set 14 r19).set 7 r22)).bind fun (r67:(List GCell)) =>
    some (r67)
   else none
  else none
 else none
noncomputable def mallongeref14_Vars_j7 (a0:GRealm) (a1:GCase) (x1:GSign) (p15:List GCell):Option ((List GCell)) :=
 if (a1.Due != (-1)) = true then
  (mallongeref14_Vars_j6 a0 a1 p15 x1 (IntKind.wrap .i64 (x1.Day - a1.Due))).bind fun (r69:(List GCell)) =>
  some (r69)
 else
  (mallongeref14_Vars_j6 a0 a1 p15 x1 0).bind fun (r70:(List GCell)) =>
  some (r70)
noncomputable def mallongeref14_Vars_j8 (a0:GRealm) (a1:GCase) (x1:GSign) (p8:List GCell):Option ((List GCell)) :=
 (mallongeref14_number a1.File.Bill.Rate).bind fun (r9:GCell) =>
 if 0 ≤ 3 ∧ 3 < p8.length then
  (p8[3]?).bind fun (x10:GCell) =>
  (mallongeref14_number x1.Kind).bind fun (r11:GCell) =>
  if 0 ≤ 4 ∧ 4 < (p8.set 3 r9).length then
   ((p8.set 3 r9)[4]?).bind fun (x12:GCell) =>
   (mallongeref14_number a1.Defence).bind fun (r13:GCell) =>
   if 0 ≤ 5 ∧ 5 < ((p8.set 3 r9).set 4 r11).length then
    (((p8.set 3 r9).set 4 r11)[5]?).bind fun (x14:GCell) =>
    (mallongeref14_Vars_j7 a0 a1 x1 (((p8.set 3 r9).set 4 r11).set 5 r13)).bind fun (r72:(List GCell)) =>
    some (r72)
   else none
  else none
 else none
noncomputable def mallongeref14_Vars (a0:GRealm) (a1:GCase):Option ((List GCell)) :=
 if decide (a1.Sign < 0) = true then
  some []
 else
  if decide (a1.Sign ≥ (a1.File.Signs.length:Int)) = true then
   some []
  else
   if decide (a1.Holder < (-1)) = true then
    some []
   else
    if decide (a1.Holder ≥ (a1.File.Signs.length:Int)) = true then
     some []
    else
     if decide (a1.Due < (-1)) = true then
      some []
     else
      if decide (a1.Due > 100000) = true then
       some []
      else
       (at? a1.File.Signs a1.Sign).bind fun (x1:GSign) =>
       if decide (x1.Day < 0) = true then
        some []
       else
        if decide (x1.Day > 100000) = true then
         some []
        else
         if 0 ≤ 20 ∧ 20 ≤ 20 ∧ 16 * 20 ≤ 281474976710656 ∧ 20 ≤ 9223372036854775807 then
          (mallongeref14_number a1.File.Bill.Sum).bind fun (r2:GCell) =>
          if 0 ≤ 0 ∧ 0 < (List.replicate 20 (GCell.mk false 0)).length then
           ((List.replicate 20 (GCell.mk false 0))[0]?).bind fun (x3:GCell) =>
           (mallongeref14_number a1.File.Bill.Parts).bind fun (r4:GCell) =>
           if 0 ≤ 1 ∧ 1 < ((List.replicate 20 (GCell.mk false 0)).set 0 r2).length then
            (((List.replicate 20 (GCell.mk false 0)).set 0 r2)[1]?).bind fun (x5:GCell) =>
            (mallongeref14_number a1.File.Bill.Tenor.Kind).bind fun (r6:GCell) =>
            if 0 ≤ 2 ∧ 2 < (((List.replicate 20 (GCell.mk false 0)).set 0 r2).set 1 r4).length then
             ((((List.replicate 20 (GCell.mk false 0)).set 0 r2).set 1 r4)[2]?).bind fun (x7:GCell) =>
             (mallongeref14_Vars_j8 a0 a1 x1 ((((List.replicate 20 (GCell.mk false 0)).set 0 r2).set 1 r4).set 2 r6)).bind fun (r74:(List GCell)) =>
             some r74
            else none
           else none
          else none
         else none
noncomputable def mallongeref14_SameCells_l1_s (a0:List GCell) (a1:List GCell) (p1:Int):Option ((Int) ⊕ (Unit ⊕ Unit)) :=
 if decide (p1 < (a0.length:Int)) = true then
  (at? a0 p1).bind fun (x2:GCell) =>
  (at? a1 p1).bind fun (x3:GCell) =>
  if (!((x2.Known == x3.Known) && (x2.N == x3.N))) = true then
   some (.inr (.inr (())))
  else
   some (.inl (IntKind.wrap .i64 (p1 + 1)))
 else
  some (.inr (.inl ()))
noncomputable def mallongeref14_SameCells_l1 (a0:List GCell) (a1:List GCell) (p1:Int):Option (Unit ⊕ Unit) :=
 Iter (fun (w:Int)=>mallongeref14_SameCells_l1_s a0 a1 w) p1
noncomputable def mallongeref14_SameCells (a0:List GCell) (a1:List GCell):Option (Bool) :=
 if ((a0.length:Int) != (a1.length:Int)) = true then
  some false
 else
  (mallongeref14_SameCells_l1 a0 a1 0).bind fun (r4:Unit ⊕ Unit)=>Sum.elim (fun z5 =>
  some true) (fun z6 =>
  some false) r4
noncomputable def mallongelaw14_RecordTells (a0:GRealm) (a1:GCase) (a2:Int) (a3:Int) (a4:Int):Option (Bool) :=
 (mallongelaw14_sane).bind fun (r1:Bool) =>
 (mallongeref09_Few a0).bind fun (r2:Bool) =>
 if (!(r2)) = true then
  some r1
 else
  (mallongeref14_Few a1.File).bind fun (r3:Bool) =>
  if (!(r3)) = true then
   some r1
  else
   (mrecord_Seen a1.File).bind fun (r4:Int) =>
   (mallongeref14_Seen a1.File).bind fun (r5:Int) =>
   if (r4 != r5) = true then
    some false
   else
    (mrecord_Fact a1.File a3 a4).bind fun (r6:GCell) =>
    (mallongeref14_Fact a1.File a3 a4).bind fun (r7:GCell) =>
    if (!((r6.Known == r7.Known) && (r6.N == r7.N))) = true then
     some false
    else
     if r1 = true then
      (mrecord_At a1.File a2).bind fun (r8:GFile) =>
      (mallongeref14_At a1.File a2).bind fun (r9:GFile) =>
      (mallongeref14_Same r8 r9).bind fun (r10:Bool) =>
      if r10 = true then
       (mrecord_Vars a0 a1).bind fun (r11:(List GCell)) =>
       (mallongeref14_Vars a0 a1).bind fun (r12:(List GCell)) =>
       (mallongeref14_SameCells r11 r12).bind fun (r13:Bool) =>
       some r13
      else
       some false
     else
      some false
noncomputable def mallongelaw14_RecordVars_l1_s (a0:GRealm) (a1:GCase) (a2:List GFact) (r1:Bool) (r4:(List GCell)) (r5:(List GCell)) (p6:Int) (p7:List GFact):Option ((Int × (List GFact)) ⊕ ((List GFact))) :=
 if decide (p6 < (a2.length:Int)) = true then
  (at? a2 p6).bind fun (x8:GFact) =>
  if (x8.At != a1.Sign) = true then
   (at? a2 p6).bind fun (x9:GFact) =>
   if (x9.At != (if 0 > a1.Holder then 0 else a1.Holder)) = true then
    (at? a2 p6).bind fun (x10:GFact) =>
    if (1 + p7.length) * 24 ≤ 140737488355328 then
     some (.inl (IntKind.wrap .i64 (p6 + 1),[x10] ++ p7))
    else none
   else
    some (.inl (IntKind.wrap .i64 (p6 + 1),p7))
  else
   some (.inl (IntKind.wrap .i64 (p6 + 1),p7))
 else
  some (.inr (p7))
noncomputable def mallongelaw14_RecordVars_l1 (a0:GRealm) (a1:GCase) (a2:List GFact) (r1:Bool) (r4:(List GCell)) (r5:(List GCell)) (p6:Int) (p7:List GFact):Option ((List GFact)) :=
 Iter (fun (w:Int × (List GFact))=>mallongelaw14_RecordVars_l1_s a0 a1 a2 r1 r4 r5 w.1 w.2) (p6,p7)
noncomputable def mallongelaw14_RecordVars_l2_s (r1:Bool) (r4:(List GCell)) (r5:(List GCell)) (p15:Int):Option ((Int) ⊕ (Unit ⊕ Unit)) :=
 if decide (p15 < (r4.length:Int)) = true then
  (at? r4 p15).bind fun (x16:GCell) =>
  if x16.Known = true then
   (at? r4 p15).bind fun (x17:GCell) =>
   (at? r5 p15).bind fun (x18:GCell) =>
   if (!((x17.Known == x18.Known) && (x17.N == x18.N))) = true then
    some (.inr (.inr (())))
   else
    if decide (p15 < 15) = true then
     (at? r4 p15).bind fun (x19:GCell) =>
     if (!(x19.Known)) = true then
      some (.inr (.inr (())))
     else
      (at? r4 p15).bind fun (x20:GCell) =>
      (at? r5 p15).bind fun (x21:GCell) =>
      if (!((x20.Known == x21.Known) && (x20.N == x21.N))) = true then
       some (.inr (.inr (())))
      else
       (at? r4 p15).bind fun (x22:GCell) =>
       if (!(x22.Known)) = true then
        (at? r4 p15).bind fun (x23:GCell) =>
        if (x23.N != 0) = true then
         some (.inr (.inr (())))
        else
         some (.inl (IntKind.wrap .i64 (p15 + 1)))
       else
        some (.inl (IntKind.wrap .i64 (p15 + 1)))
    else
     (at? r4 p15).bind fun (x24:GCell) =>
     if (!(x24.Known)) = true then
      (at? r4 p15).bind fun (x25:GCell) =>
      if (x25.N != 0) = true then
       some (.inr (.inr (())))
      else
       some (.inl (IntKind.wrap .i64 (p15 + 1)))
     else
      some (.inl (IntKind.wrap .i64 (p15 + 1)))
  else
   if decide (p15 < 15) = true then
    (at? r4 p15).bind fun (x26:GCell) =>
    if (!(x26.Known)) = true then
     some (.inr (.inr (())))
    else
     (at? r4 p15).bind fun (x27:GCell) =>
     (at? r5 p15).bind fun (x28:GCell) =>
     if (!((x27.Known == x28.Known) && (x27.N == x28.N))) = true then
      some (.inr (.inr (())))
     else
      (at? r4 p15).bind fun (x29:GCell) =>
      if (!(x29.Known)) = true then
       (at? r4 p15).bind fun (x30:GCell) =>
       if (x30.N != 0) = true then
        some (.inr (.inr (())))
       else
        some (.inl (IntKind.wrap .i64 (p15 + 1)))
      else
       some (.inl (IntKind.wrap .i64 (p15 + 1)))
   else
    (at? r4 p15).bind fun (x31:GCell) =>
    if (!(x31.Known)) = true then
     (at? r4 p15).bind fun (x32:GCell) =>
     if (x32.N != 0) = true then
      some (.inr (.inr (())))
     else
      some (.inl (IntKind.wrap .i64 (p15 + 1)))
    else
     some (.inl (IntKind.wrap .i64 (p15 + 1)))
 else
  some (.inr (.inl ()))
noncomputable def mallongelaw14_RecordVars_l2 (r1:Bool) (r4:(List GCell)) (r5:(List GCell)) (p15:Int):Option (Unit ⊕ Unit) :=
 Iter (fun (w:Int)=>mallongelaw14_RecordVars_l2_s r1 r4 r5 w) p15
noncomputable def mallongelaw14_RecordVars (a0:GRealm) (a1:GCase) (a2:List GFact):Option (Bool) :=
 (mallongelaw14_sane).bind fun (r1:Bool) =>
 (mallongeref09_Few a0).bind fun (r2:Bool) =>
 if (!(r2)) = true then
  some r1
 else
  (mallongeref14_Few a1.File).bind fun (r3:Bool) =>
  if (!(r3)) = true then
   some r1
  else
   if decide ((a2.length:Int) > 50) = true then
    some r1
   else
    (mrecord_Vars a0 a1).bind fun (r4:(List GCell)) =>
    if (0 + a1.File.Facts.length) * 24 ≤ 140737488355328 then
     if ((([]:List GFact) ++ a1.File.Facts).length + a2.length) * 24 ≤ 140737488355328 then
      (mrecord_Vars a0 (GCase.mk (GFile.mk a1.File.Bill a1.File.Signs a1.File.Alters a1.File.Acts ((([]:List GFact) ++ a1.File.Facts) ++ a2)) a1.Sign a1.Holder a1.Defence a1.Due a1.Day)).bind fun (r5:(List GCell)) =>
      if (0 + a1.File.Facts.length) * 24 ≤ 140737488355328 then
       (mallongelaw14_RecordVars_l1 a0 a1 a2 r1 r4 r5 0 (([]:List GFact) ++ a1.File.Facts)).bind fun (r12:(List GFact)) =>
       (mrecord_Vars a0 (GCase.mk (GFile.mk a1.File.Bill a1.File.Signs a1.File.Alters a1.File.Acts r12) a1.Sign a1.Holder a1.Defence a1.Due a1.Day)).bind fun (r13:(List GCell)) =>
       if ((r5.length:Int) != (r4.length:Int)) = true then
        some false
       else
        (mallongeref14_SameCells r4 r13).bind fun (r14:Bool) =>
        if (!(r14)) = true then
         some false
        else
         (mallongelaw14_RecordVars_l2 r1 r4 r5 0).bind fun (r33:Unit ⊕ Unit)=>Sum.elim (fun z34 =>
         if r1 = true then
           if ((r4.length:Int) == 0) = true then
            some true
           else
            some ((r4.length:Int) == 20)
          else
           some false) (fun z35 =>
         some false) r33
      else none
     else none
    else none
noncomputable def mallongelaw14_RecordFacts_j1 (a0:GFile) (a1:GFact) (a2:Int) (a3:Int) (r1:Bool) (r5:GCell):Option (Bool) :=
 if r1 = true then
  (mrecord_Fact (GFile.mk a0.Bill a0.Signs a0.Alters a0.Acts ([a1] ++ a0.Facts)) a2 a3).bind fun (r8:GCell) =>
  if ((r8.Known == r5.Known) && (r8.N == r5.N)) = true then
   (mrecord_Fact (GFile.mk a0.Bill a0.Signs a0.Alters a0.Acts ((([]:List GFact) ++ a0.Facts) ++ [a1])) a2 a3).bind fun (r9:GCell) =>
   some ((r9.Known == r5.Known) && (r9.N == r5.N))
  else
   some (false)
 else
  some (false)
noncomputable def mallongelaw14_RecordFacts_j2 (a0:GFile) (a1:GFact) (a2:Int) (a3:Int) (r1:Bool) (r5:GCell):Option (Bool) :=
 if (a2 == a1.Kind) = true then
  if (a3 == a1.At) = true then
   some (r1)
  else
   (mallongelaw14_RecordFacts_j1 a0 a1 a2 a3 r1 r5).bind fun (r11:Bool) =>
   some (r11)
 else
  (mallongelaw14_RecordFacts_j1 a0 a1 a2 a3 r1 r5).bind fun (r12:Bool) =>
  some (r12)
noncomputable def mallongelaw14_RecordFacts_j3 (a0:GFile) (a1:GFact) (a2:Int) (a3:Int) (r1:Bool) (p3:Int):Option (Bool) :=
 (mrecord_Fact a0 a1.Kind a1.At).bind fun (r4:GCell) =>
 (mrecord_Fact a0 a2 a3).bind fun (r5:GCell) =>
 if (1 + a0.Facts.length) * 24 ≤ 140737488355328 then
  if (0 + a0.Facts.length) * 24 ≤ 140737488355328 then
   if ((([]:List GFact) ++ a0.Facts).length + 1) * 24 ≤ 140737488355328 then
    (mrecord_Fact (GFile.mk a0.Bill a0.Signs a0.Alters a0.Acts ([a1] ++ a0.Facts)) a1.Kind a1.At).bind fun (r6:GCell) =>
    (mrecord_Fact (GFile.mk a0.Bill a0.Signs a0.Alters a0.Acts ((([]:List GFact) ++ a0.Facts) ++ [a1])) a1.Kind a1.At).bind fun (r7:GCell) =>
    if (!((r6.Known == true) && (r6.N == p3))) = true then
     some (false)
    else
     if r4.Known = true then
      if (!((r7.Known == r4.Known) && (r7.N == r4.N))) = true then
       some (false)
      else
       if (!(r4.Known)) = true then
        if (!((r7.Known == true) && (r7.N == p3))) = true then
         some (false)
        else
         if (r4.N != 0) = true then
          some (false)
         else
          (mallongelaw14_RecordFacts_j2 a0 a1 a2 a3 r1 r5).bind fun (r14:Bool) =>
          some (r14)
       else
        (mallongelaw14_RecordFacts_j2 a0 a1 a2 a3 r1 r5).bind fun (r15:Bool) =>
        some (r15)
     else
      if (!(r4.Known)) = true then
       if (!((r7.Known == true) && (r7.N == p3))) = true then
        some (false)
       else
        if (r4.N != 0) = true then
         some (false)
        else
         (mallongelaw14_RecordFacts_j2 a0 a1 a2 a3 r1 r5).bind fun (r16:Bool) =>
         some (r16)
      else
       (mallongelaw14_RecordFacts_j2 a0 a1 a2 a3 r1 r5).bind fun (r17:Bool) =>
       some (r17)
   else none
  else none
 else none
noncomputable def mallongelaw14_RecordFacts (a0:GFile) (a1:GFact) (a2:Int) (a3:Int):Option (Bool) :=
 (mallongelaw14_sane).bind fun (r1:Bool) =>
 (mallongeref14_Few a0).bind fun (r2:Bool) =>
 if (!(r2)) = true then
  some r1
 else
  if (a1.N == 0) = true then
   (mallongelaw14_RecordFacts_j3 a0 a1 a2 a3 r1 0).bind fun (r19:Bool) =>
   some r19
  else
   (mallongelaw14_RecordFacts_j3 a0 a1 a2 a3 r1 1).bind fun (r20:Bool) =>
   some r20
end Go.Proofs.Ytfhebiceipgdmaa
