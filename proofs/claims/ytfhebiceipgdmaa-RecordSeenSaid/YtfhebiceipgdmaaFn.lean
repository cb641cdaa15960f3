/- What the functions compute, as plain definitions. Printed by a program. -/
import Derived.Test.YtfhebiceipgdmaaTab
set_option linter.unusedVariables false
set_option linter.unusedSimpArgs false
namespace Go.Proofs.Ytfhebiceipgdmaa
noncomputable section
open Vm
open Go.RowKit
def lC:Option (aB) :=
 some (aB.mk (bD.mk 0 1 2 100 0 (bS.mk 1 30 0) 2 0 0 (-1) 0 1 1) [(aO.mk 0 0 0 (-1) (-1) 0 2 0 0),(aO.mk 1 0 1 (-1) (-1) 100 5 0 0),(aO.mk 2 0 2 (-1) 3 0 8 0 0)] [] [(bB.mk 1 2 1 0 (-1) 0 4 0 0)] [(bG.mk 0 2 1)])
def hU (a0:Int) (a1:Int):Option (Bool) :=
 if decide (a0 ≥ 0) = true then
  some (decide (a0 < a1))
 else
  some false
def jR (a0:aB) (a1:Int) (p1:Int) (p2:List aO):Option ((Int × (List aO)) ⊕ ((List aO))) :=
 if decide (p1 < (a0.Signs.length:Int)) = true then
  (at? a0.Signs p1).bind fun (x3:aO) =>
  if decide (x3.Day > a1) = true then
   some (.inr (p2))
  else
   if (p2.length + 1) * 72 ≤ 140737488355328 then
    some (.inl (IntKind.wrap .i64 (p1 + 1),p2 ++ [x3]))
   else none
 else
  some (.inr (p2))
def tQ (a0:aB) (a1:Int) (p1:Int) (p2:List aO):Option ((List aO)) :=
 fY (fun (w:Int × (List aO))=>jR a0 a1 w.1 w.2) (p1,p2)
def jP (a0:aB) (a1:Int) (r5:(List aO)) (p6:Int) (p7:List bB):Option ((Int × (List bB)) ⊕ ((List bB))) :=
 if decide (p6 < (a0.Acts.length:Int)) = true then
  (at? a0.Acts p6).bind fun (x8:bB) =>
  if decide (x8.Day > a1) = true then
   some (.inr (p7))
  else
   if (p7.length + 1) * 72 ≤ 140737488355328 then
    some (.inl (IntKind.wrap .i64 (p6 + 1),p7 ++ [x8]))
   else none
 else
  some (.inr (p7))
def tT (a0:aB) (a1:Int) (r5:(List aO)) (p6:Int) (p7:List bB):Option ((List bB)) :=
 fY (fun (w:Int × (List bB))=>jP a0 a1 r5 w.1 w.2) (p6,p7)
def jO (a0:aB) (r10:(List bB)) (r5:(List aO)) (p11:Int) (p12:List aZ):Option ((Int × (List aZ)) ⊕ ((List aZ))) :=
 if decide (p11 < (a0.Alters.length:Int)) = true then
  (at? a0.Alters p11).bind fun (x13:aZ) =>
  if decide (x13.At ≤ (r5.length:Int)) = true then
   if (p12.length + 1) * 16 ≤ 140737488355328 then
    some (.inl (IntKind.wrap .i64 (p11 + 1),p12 ++ [x13]))
   else none
  else
   some (.inl (IntKind.wrap .i64 (p11 + 1),p12))
 else
  some (.inr (p12))
def tU (a0:aB) (r10:(List bB)) (r5:(List aO)) (p11:Int) (p12:List aZ):Option ((List aZ)) :=
 fY (fun (w:Int × (List aZ))=>jO a0 r10 r5 w.1 w.2) (p11,p12)
def jN (a0:aB) (r10:(List bB)) (r15:(List aZ)) (r5:(List aO)) (p16:Int) (p17:List bG):Option ((Int × (List bG)) ⊕ ((List bG))) :=
 if decide (p16 < (a0.Facts.length:Int)) = true then
  (at? a0.Facts p16).bind fun (x18:bG) =>
  (hU x18.At (r5.length:Int)).bind fun (r19:Bool) =>
  if r19 = true then
   if (p17.length + 1) * 24 ≤ 140737488355328 then
    some (.inl (IntKind.wrap .i64 (p16 + 1),p17 ++ [x18]))
   else none
  else
   some (.inl (IntKind.wrap .i64 (p16 + 1),p17))
 else
  some (.inr (p17))
def tY (a0:aB) (r10:(List bB)) (r15:(List aZ)) (r5:(List aO)) (p16:Int) (p17:List bG):Option ((List bG)) :=
 fY (fun (w:Int × (List bG))=>jN a0 r10 r15 r5 w.1 w.2) (p16,p17)
def hH (a0:aB) (a1:Int):Option (aB) :=
 (tQ a0 a1 0 []).bind fun (r5:(List aO)) =>
 (tT a0 a1 r5 0 []).bind fun (r10:(List bB)) =>
 (tU a0 r10 r5 0 []).bind fun (r15:(List aZ)) =>
 (tY a0 r10 r15 r5 0 []).bind fun (r21:(List bG)) =>
 some (aB.mk a0.Bill r5 r15 r10 r21)
def kL:Option (aA) :=
 some (aA.mk [(⟨#[102,114,97,110,99]⟩ : ByteArray)] [(bJ.mk (⟨#[76,121,111,110]⟩ : ByteArray) 0 0 [] [] [])] [(bN.mk 0)] [(bU.mk (⟨#[97]⟩ : ByteArray) 0 0),(bU.mk (⟨#[98]⟩ : ByteArray) 0 0),(bU.mk (⟨#[99]⟩ : ByteArray) 0 0),(bU.mk (⟨#[100]⟩ : ByteArray) 0 0)] [(bC.mk (⟨#[103,101,110,101,118,97]⟩ : ByteArray) false [] [])] [] [] [])
def nQ (a0:aZ) (a1:a7):Option (Bool) :=
 some (decide (a0.At ≤ a1.Sign))
def dF (a0:List aZ) (a1:a7) (p1:Int):Option ((Int) ⊕ (Unit ⊕ Int)) :=
 if decide (p1 < (a0.length:Int)) = true then
  (at? a0 p1).bind fun (x2:aZ) =>
  (nQ x2 a1).bind fun (r3:Bool) =>
  if r3 = true then
   some (.inr (.inr (p1)))
  else
   some (.inl (IntKind.wrap .i64 (p1 + 1)))
 else
  some (.inr (.inl ()))
def eR (a0:List aZ) (a1:a7) (p1:Int):Option (Unit ⊕ Int) :=
 fY (fun (w:Int)=>dF a0 a1 w) p1
def dR (a0:List aZ) (a1:a7):Option (Int) :=
 (eR a0 a1 0).bind fun (r5:Unit ⊕ Int)=>Sum.elim (fun z6 =>
 some (-1)) (fun z7 =>
 some z7) r5
def dI (a0:List aZ) (a1:a7):Option (Bool) :=
 (dR a0 a1).bind fun (r1:Int) =>
 some (decide (r1 ≥ 0))
def fI (a0:Int) (a1:Int):Option (Bool) :=
 if decide (a0 ≥ 0) = true then
  some (decide (a0 < a1))
 else
  some false
def oS (a0:aA) (a1:Int):Option (Int) :=
 (fI a1 (a0.Cities.length:Int)).bind fun (r1:Bool) =>
 if (!(r1)) = true then
  some (-1)
 else
  (at? a0.Cities a1).bind fun (x2:bJ) =>
  some x2.Order
def tW (a0:Bool):Option (aY) :=
 if a0 = true then
  some (aY.mk true 1)
 else
  some (aY.mk true 0)
def nT (a0:aB) (a1:Int) (a2:Int) (p1:Int):Option ((Int) ⊕ (Unit ⊕ aY)) :=
 if decide (p1 < (a0.Facts.length:Int)) = true then
  (at? a0.Facts p1).bind fun (x2:bG) =>
  if (x2.Kind == a1) = true then
   if (x2.At == a2) = true then
    (tW (x2.N != 0)).bind fun (r3:aY) =>
    some (.inr (.inr (r3)))
   else
    some (.inl (IntKind.wrap .i64 (p1 + 1)))
  else
   some (.inl (IntKind.wrap .i64 (p1 + 1)))
 else
  some (.inr (.inl ()))
def uR (a0:aB) (a1:Int) (a2:Int) (p1:Int):Option (Unit ⊕ aY) :=
 fY (fun (w:Int)=>nT a0 a1 a2 w) p1
def iW (a0:aB) (a1:Int) (a2:Int):Option (aY) :=
 (uR a0 a1 a2 0).bind fun (r5:Unit ⊕ aY)=>Sum.elim (fun z6 =>
 some (aY.mk false 0)) (fun z7 =>
 some z7) r5
def uV (a1:a7) (p17:List aY):Option ((List aY)) :=
 (iW a1.File 3 (if 0 > a1.Holder then 0 else a1.Holder)).bind fun (r18:aY) =>
 if 0 ≤ 18 ∧ 18 < p17.length then
  (p17[18]?).bind fun (x19:aY) =>
  (iW a1.File 4 (if 0 > a1.Holder then 0 else a1.Holder)).bind fun (r20:aY) =>
  if 0 ≤ 19 ∧ 19 < (p17.set 18 r18).length then
   ((p17.set 18 r18)[19]?).bind fun (x21:aY) =>
   some ((p17.set 18 r18).set 19 r20)
  else none
 else none
def uQ (a1:a7) (p10:List aY):Option ((List aY)) :=
 (iW a1.File 0 a1.Sign).bind fun (r11:aY) =>
 if 0 ≤ 15 ∧ 15 < p10.length then
  (p10[15]?).bind fun (x12:aY) =>
  (iW a1.File 1 a1.Sign).bind fun (r13:aY) =>
  if 0 ≤ 16 ∧ 16 < (p10.set 15 r11).length then
   ((p10.set 15 r11)[16]?).bind fun (x14:aY) =>
   (iW a1.File 2 a1.Sign).bind fun (r15:aY) =>
   if 0 ≤ 17 ∧ 17 < ((p10.set 15 r11).set 16 r13).length then
    (((p10.set 15 r11).set 16 r13)[17]?).bind fun (x16:aY) =>
    (uV a1 (((p10.set 15 r11).set 16 r13).set 17 r15)).bind fun (r23:(List aY)) =>
    some (r23)
   else none
  else none
 else none
def uU (a0:aA) (a1:a7) (p5:Int) (x3:aO) (p6:List aY):Option ((List aY)) :=
 (dI a1.File.Alters a1).bind fun (r7:Bool) =>
 (oS a0 a1.File.Bill.City).bind fun (r8:Int) =>
 (oS a0 a1.File.Bill.Pay).bind fun (r9:Int) =>
 if 7 < p6.length then
  if 8 < (p6.set 7 (aY.mk true (if ((IntKind.wrap .i64 (BitVec.ofInt (IntKind.bits .i64) a1.File.Bill.Flags &&& BitVec.ofInt (IntKind.bits .i64) 1).toNat) != 0) = true then 1 else 0))).length then
   if 9 < ((p6.set 7 (aY.mk true (if ((IntKind.wrap .i64 (BitVec.ofInt (IntKind.bits .i64) a1.File.Bill.Flags &&& BitVec.ofInt (IntKind.bits .i64) 1).toNat) != 0) = true then 1 else 0))).set 8 (aY.mk true (if (a1.File.Bill.Payee == (-1)) = true then 1 else 0))).length then
    if 10 < (((p6.set 7 (aY.mk true (if ((IntKind.wrap .i64 (BitVec.ofInt (IntKind.bits .i64) a1.File.Bill.Flags &&& BitVec.ofInt (IntKind.bits .i64) 1).toNat) != 0) = true then 1 else 0))).set 8 (aY.mk true (if (a1.File.Bill.Payee == (-1)) = true then 1 else 0))).set 9 (aY.mk true (if ((IntKind.wrap .i64 (BitVec.ofInt (IntKind.bits .i64) a1.File.Bill.Flags &&& BitVec.ofInt (IntKind.bits .i64) 4).toNat) != 0) = true then 1 else 0))).length then
     if 11 < ((((p6.set 7 (aY.mk true (if ((IntKind.wrap .i64 (BitVec.ofInt (IntKind.bits .i64) a1.File.Bill.Flags &&& BitVec.ofInt (IntKind.bits .i64) 1).toNat) != 0) = true then 1 else 0))).set 8 (aY.mk true (if (a1.File.Bill.Payee == (-1)) = true then 1 else 0))).set 9 (aY.mk true (if ((IntKind.wrap .i64 (BitVec.ofInt (IntKind.bits .i64) a1.File.Bill.Flags &&& BitVec.ofInt (IntKind.bits .i64) 4).toNat) != 0) = true then 1 else 0))).set 10 (aY.mk true (if ((IntKind.wrap .i64 (BitVec.ofInt (IntKind.bits .i64) a1.File.Bill.Flags &&& BitVec.ofInt (IntKind.bits .i64) 2).toNat) != 0) = true then 1 else 0))).length then
      if 12 < (((((p6.set 7 (aY.mk true (if ((IntKind.wrap .i64 (BitVec.ofInt (IntKind.bits .i64) a1.File.Bill.Flags &&& BitVec.ofInt (IntKind.bits .i64) 1).toNat) != 0) = true then 1 else 0))).set 8 (aY.mk true (if (a1.File.Bill.Payee == (-1)) = true then 1 else 0))).set 9 (aY.mk true (if ((IntKind.wrap .i64 (BitVec.ofInt (IntKind.bits .i64) a1.File.Bill.Flags &&& BitVec.ofInt (IntKind.bits .i64) 4).toNat) != 0) = true then 1 else 0))).set 10 (aY.mk true (if ((IntKind.wrap .i64 (BitVec.ofInt (IntKind.bits .i64) a1.File.Bill.Flags &&& BitVec.ofInt (IntKind.bits .i64) 2).toNat) != 0) = true then 1 else 0))).set 11 (aY.mk true (if (r8 != r9) = true then 1 else 0))).length then
       if 13 < ((((((p6.set 7 (aY.mk true (if ((IntKind.wrap .i64 (BitVec.ofInt (IntKind.bits .i64) a1.File.Bill.Flags &&& BitVec.ofInt (IntKind.bits .i64) 1).toNat) != 0) = true then 1 else 0))).set 8 (aY.mk true (if (a1.File.Bill.Payee == (-1)) = true then 1 else 0))).set 9 (aY.mk true (if ((IntKind.wrap .i64 (BitVec.ofInt (IntKind.bits .i64) a1.File.Bill.Flags &&& BitVec.ofInt (IntKind.bits .i64) 4).toNat) != 0) = true then 1 else 0))).set 10 (aY.mk true (if ((IntKind.wrap .i64 (BitVec.ofInt (IntKind.bits .i64) a1.File.Bill.Flags &&& BitVec.ofInt (IntKind.bits .i64) 2).toNat) != 0) = true then 1 else 0))).set 11 (aY.mk true (if (r8 != r9) = true then 1 else 0))).set 12 (aY.mk true (if r7 = true then 1 else 0))).length then
        if 14 < (((((((p6.set 7 (aY.mk true (if ((IntKind.wrap .i64 (BitVec.ofInt (IntKind.bits .i64) a1.File.Bill.Flags &&& BitVec.ofInt (IntKind.bits .i64) 1).toNat) != 0) = true then 1 else 0))).set 8 (aY.mk true (if (a1.File.Bill.Payee == (-1)) = true then 1 else 0))).set 9 (aY.mk true (if ((IntKind.wrap .i64 (BitVec.ofInt (IntKind.bits .i64) a1.File.Bill.Flags &&& BitVec.ofInt (IntKind.bits .i64) 4).toNat) != 0) = true then 1 else 0))).set 10 (aY.mk true (if ((IntKind.wrap .i64 (BitVec.ofInt (IntKind.bits .i64) a1.File.Bill.Flags &&& BitVec.ofInt (IntKind.bits .i64) 2).toNat) != 0) = true then 1 else 0))).set 11 (aY.mk true (if (r8 != r9) = true then 1 else 0))).set 12 (aY.mk true (if r7 = true then 1 else 0))).set 13 (aY.mk true (if ((IntKind.wrap .i64 (BitVec.ofInt (IntKind.bits .i64) x3.Flags &&& BitVec.ofInt (IntKind.bits .i64) 1).toNat) != 0) = true then 1 else 0))).length then
         (uQ a1 ((((((((p6.set 7 (aY.mk true (if ((IntKind.wrap .i64 (BitVec.ofInt (IntKind.bits .i64) a1.File.Bill.Flags &&& BitVec.ofInt (IntKind.bits .i64) 1).toNat) != 0) = true then 1 else 0))).set 8 (aY.mk true (if (a1.File.Bill.Payee == (-1)) = true then 1 else 0))).set 9 (aY.mk true (if ((IntKind.wrap .i64 (BitVec.ofInt (IntKind.bits .i64) a1.File.Bill.Flags &&& BitVec.ofInt (IntKind.bits .i64) 4).toNat) != 0) = true then 1 else 0))).set 10 (aY.mk true (if ((IntKind.wrap .i64 (BitVec.ofInt (IntKind.bits .i64) a1.File.Bill.Flags &&& BitVec.ofInt (IntKind.bits .i64) 2).toNat) != 0) = true then 1 else 0))).set 11 (aY.mk true (if (r8 != r9) = true then 1 else 0))).set 12 (aY.mk true (if r7 = true then 1 else 0))).set 13 (aY.mk true (if ((IntKind.wrap .i64 (BitVec.ofInt (IntKind.bits .i64) x3.Flags &&& BitVec.ofInt (IntKind.bits .i64) 1).toNat) != 0) = true then 1 else 0))).set 14 (aY.mk true (if (decide (p5 > 0)) = true then 1 else 0)))).bind fun (r25:(List aY)) =>
         some (r25)
        else none
       else none
      else none
     else none
    else none
   else none
  else none
 else none
def qJ (a0:aA) (a1:a7) (x3:aO) (p5:Int):Option ((List aY)) :=
 if 0 ≤ 20 ∧ 20 ≤ 20 ∧ 16 * 20 ≤ 281474976710656 ∧ 20 ≤ 9223372036854775807 then
  if 0 < (List.replicate 20 (aY.mk false 0)).length then
   if 1 < ((List.replicate 20 (aY.mk false 0)).set 0 (aY.mk true a1.File.Bill.Sum)).length then
    if 2 < (((List.replicate 20 (aY.mk false 0)).set 0 (aY.mk true a1.File.Bill.Sum)).set 1 (aY.mk true a1.File.Bill.Parts)).length then
     if 3 < ((((List.replicate 20 (aY.mk false 0)).set 0 (aY.mk true a1.File.Bill.Sum)).set 1 (aY.mk true a1.File.Bill.Parts)).set 2 (aY.mk true a1.File.Bill.Tenor.Kind)).length then
      if 4 < (((((List.replicate 20 (aY.mk false 0)).set 0 (aY.mk true a1.File.Bill.Sum)).set 1 (aY.mk true a1.File.Bill.Parts)).set 2 (aY.mk true a1.File.Bill.Tenor.Kind)).set 3 (aY.mk true a1.File.Bill.Rate)).length then
       if 5 < ((((((List.replicate 20 (aY.mk false 0)).set 0 (aY.mk true a1.File.Bill.Sum)).set 1 (aY.mk true a1.File.Bill.Parts)).set 2 (aY.mk true a1.File.Bill.Tenor.Kind)).set 3 (aY.mk true a1.File.Bill.Rate)).set 4 (aY.mk true x3.Kind)).length then
        if 6 < (((((((List.replicate 20 (aY.mk false 0)).set 0 (aY.mk true a1.File.Bill.Sum)).set 1 (aY.mk true a1.File.Bill.Parts)).set 2 (aY.mk true a1.File.Bill.Tenor.Kind)).set 3 (aY.mk true a1.File.Bill.Rate)).set 4 (aY.mk true x3.Kind)).set 5 (aY.mk true a1.Defence)).length then
         (uU a0 a1 p5 x3 ((((((((List.replicate 20 (aY.mk false 0)).set 0 (aY.mk true a1.File.Bill.Sum)).set 1 (aY.mk true a1.File.Bill.Parts)).set 2 (aY.mk true a1.File.Bill.Tenor.Kind)).set 3 (aY.mk true a1.File.Bill.Rate)).set 4 (aY.mk true x3.Kind)).set 5 (aY.mk true a1.Defence)).set 6 (aY.mk true p5))).bind fun (r27:(List aY)) =>
         some (r27)
        else none
       else none
      else none
     else none
    else none
   else none
  else none
 else none
def qI (a0:aA) (a1:a7):Option ((List aY)) :=
 (at? a1.File.Signs a1.Sign).bind fun (x3:aO) =>
 (hU x3.Day 100001).bind fun (r4:Bool) =>
 if (!(r4)) = true then
  some ([])
 else
  if (a1.Due != (-1)) = true then
   (qJ a0 a1 x3 (IntKind.wrap .i64 (x3.Day - a1.Due))).bind fun (r29:(List aY)) =>
   some (r29)
  else
   (qJ a0 a1 x3 0).bind fun (r30:(List aY)) =>
   some (r30)
def sB (a0:aA) (a1:a7):Option ((List aY)) :=
 (hU a1.Sign (a1.File.Signs.length:Int)).bind fun (r1:Bool) =>
 if (!(r1)) = true then
  some []
 else
  if decide (a1.Holder < (-1)) = true then
   some []
  else
   if decide ((if 0 > a1.Holder then 0 else a1.Holder) ≥ (a1.File.Signs.length:Int)) = true then
    some []
   else
    if (a1.Due != (-1)) = true then
     (hU a1.Due 100001).bind fun (r2:Bool) =>
     if (!(r2)) = true then
      some []
     else
      (qI a0 a1).bind fun (r32:(List aY)) =>
      some r32
    else
     (qI a0 a1).bind fun (r33:(List aY)) =>
     some r33
def dX (a0:List Int) (p2:Int) (p3:Int):Option ((Int × Int) ⊕ (Int)) :=
 if decide (p3 < (a0.length:Int)) = true then
  (at? a0 p3).bind fun (x4:Int) =>
  some (.inl ((if x4 < p2 then x4 else p2),IntKind.wrap .i64 (p3 + 1)))
 else
  some (.inr (p2))
def j0 (a0:List Int) (p2:Int) (p3:Int):Option (Int) :=
 fY (fun (w:Int × Int)=>dX a0 w.1 w.2) (p2,p3)
def iF (a0:List Int):Option (Int) :=
 if decide ((a0.length:Int) < 1) = true then
  none
 else
  (at? a0 0).bind fun (x1:Int) =>
  (j0 a0 x1 1).bind fun (r6:Int) =>
  some r6
def gZ (a0:aB) (p1:Int) (p2:List Int):Option ((Int × (List Int)) ⊕ ((List Int))) :=
 if decide (p1 < (a0.Signs.length:Int)) = true then
  (at? a0.Signs p1).bind fun (x3:aO) =>
  if (a0.Bill.Tenor.Kind == 1) = true then
   if (x3.Kind == 1) = true then
    if (p2.length + 1) * 8 ≤ 140737488355328 then
     some (.inl (IntKind.wrap .i64 (p1 + 1),p2 ++ [x3.Day]))
    else none
   else
    some (.inl (IntKind.wrap .i64 (p1 + 1),p2))
  else
   some (.inl (IntKind.wrap .i64 (p1 + 1),p2))
 else
  some (.inr (p2))
def pX (a0:aB) (p1:Int) (p2:List Int):Option ((List Int)) :=
 fY (fun (w:Int × (List Int))=>gZ a0 w.1 w.2) (p1,p2)
def kS (a0:aB) (p6:Int) (p7:List Int) (x8:bB):Option ((List Int)) :=
 if (a0.Bill.Tenor.Kind == 1) = true then
  if (x8.Kind == 1) = true then
   if (p7.length + 1) * 8 ≤ 140737488355328 then
    some (p7 ++ [x8.Day])
   else none
  else
   some (p7)
 else
  some (p7)
def iD (a0:aB) (p6:Int) (p7:List Int):Option ((Int × (List Int)) ⊕ (((List Int)) ⊕ Int)) :=
 if decide (p6 < (a0.Acts.length:Int)) = true then
  (at? a0.Acts p6).bind fun (x8:bB) =>
  if (a0.Bill.Tenor.Kind == 0) = true then
   if (x8.Kind == 2) = true then
    some (.inr (.inr (x8.Day)))
   else
    (kS a0 p6 p7 x8).bind fun (r10:(List Int)) =>
    some (.inl (IntKind.wrap .i64 (p6 + 1),r10))
  else
   (kS a0 p6 p7 x8).bind fun (r11:(List Int)) =>
   some (.inl (IntKind.wrap .i64 (p6 + 1),r11))
 else
  some (.inr (.inl p7))
def pZ (a0:aB) (p6:Int) (p7:List Int):Option (((List Int)) ⊕ Int) :=
 fY (fun (w:Int × (List Int))=>iD a0 w.1 w.2) (p6,p7)
def j7 (a0:aB):Option (Int) :=
 (pX a0 0 []).bind fun (r5:(List Int)) =>
 (pZ a0 0 r5).bind fun (r14:((List Int)) ⊕ Int)=>Sum.elim (fun z15 =>
 if ((z15.length:Int) == 0) = true then
   some (-1)
  else
   (iF z15).bind fun (r17:Int) =>
   some r17) (fun z16 =>
 some z16) r14
def eE (p8:Bool) (r1:aB) (p15:Bool):Option (Bool) :=
 if p8 = true then
  if p15 = true then
   (iW r1 0 2).bind fun (r16:aY) =>
   if r16.Known = true then
    (iW r1 2 2).bind fun (r17:aY) =>
    some (!(r17.Known))
   else
    some (false)
  else
   some (false)
 else
  some (false)
def fD (r1:aB) (r4:(List aY)) (p8:Bool):Option (Bool) :=
 (at? r4 0).bind fun (x9:aY) =>
 if (x9.N == 100) = true then
  (at? r4 6).bind fun (x10:aY) =>
  if (x10.N == 2) = true then
   (at? r4 14).bind fun (x11:aY) =>
   if (x11.N == 1) = true then
    (at? r4 15).bind fun (x12:aY) =>
    if ((x12.Known == true) && (x12.N == 1)) = true then
     (at? r4 16).bind fun (x13:aY) =>
     if (!(x13.Known)) = true then
      (at? r4 12).bind fun (x14:aY) =>
      (eE p8 r1 x14.Known).bind fun (r19:Bool) =>
      some (r19)
     else
      (eE p8 r1 false).bind fun (r20:Bool) =>
      some (r20)
    else
     (eE p8 r1 false).bind fun (r21:Bool) =>
     some (r21)
   else
    (eE p8 r1 false).bind fun (r22:Bool) =>
    some (r22)
  else
   (eE p8 r1 false).bind fun (r23:Bool) =>
   some (r23)
 else
  (eE p8 r1 false).bind fun (r24:Bool) =>
  some (r24)
def eW:Option (Bool) :=
 (lC).bind fun (r1:aB) =>
 (hH r1 7).bind fun (r2:aB) =>
 (kL).bind fun (r3:aA) =>
 (sB r3 (a7.mk r1 2 (-1) (-1) 6 9)).bind fun (r4:(List aY)) =>
 if ((r4.length:Int) != 20) = true then
  some false
 else
  if ((r2.Signs.length:Int) == 2) = true then
   if ((r2.Acts.length:Int) == 1) = true then
    if ((r2.Facts.length:Int) == 0) = true then
     (j7 r1).bind fun (r5:Int) =>
     if (r5 == 4) = true then
      (hH r1 3).bind fun (r6:aB) =>
      (j7 r6).bind fun (r7:Int) =>
      (fD r1 r4 (r7 == (-1))).bind fun (r26:Bool) =>
      some r26
     else
      (fD r1 r4 false).bind fun (r27:Bool) =>
      some r27
    else
     (fD r1 r4 false).bind fun (r28:Bool) =>
     some r28
   else
    (fD r1 r4 false).bind fun (r29:Bool) =>
    some r29
  else
   (fD r1 r4 false).bind fun (r30:Bool) =>
   some r30
def eX (a0:aA) (p1:Int):Option ((Int) ⊕ (Unit ⊕ Unit)) :=
 if decide (p1 < (a0.Cities.length:Int)) = true then
  if decide (p1 < 50) = true then
   (at? a0.Cities p1).bind fun (x2:bJ) =>
   if decide ((x2.Feasts.length:Int) > 70) = true then
    some (.inr (.inr (())))
   else
    (at? a0.Cities p1).bind fun (x3:bJ) =>
    if decide ((x3.Shut.length:Int) > 210) = true then
     some (.inr (.inr (())))
    else
     (at? a0.Cities p1).bind fun (x4:bJ) =>
     if decide ((x4.Rest.length:Int) > 8) = true then
      some (.inr (.inr (())))
     else
      some (.inl (IntKind.wrap .i64 (p1 + 1)))
  else
   some (.inr (.inl ()))
 else
  some (.inr (.inl ()))
def lA (a0:aA) (p1:Int):Option (Unit ⊕ Unit) :=
 fY (fun (w:Int)=>eX a0 w) p1
def eY (a0:aA) (p8:Int):Option ((Int) ⊕ (Unit ⊕ Unit)) :=
 if decide (p8 < (a0.Orders.length:Int)) = true then
  if decide (p8 < 50) = true then
   (at? a0.Orders p8).bind fun (x9:bC) =>
   if decide ((x9.Choices.length:Int) > 40) = true then
    some (.inr (.inr (())))
   else
    (at? a0.Orders p8).bind fun (x10:bC) =>
    if decide ((x10.Rules.length:Int) > 40) = true then
     some (.inr (.inr (())))
    else
     some (.inl (IntKind.wrap .i64 (p8 + 1)))
  else
   some (.inr (.inl ()))
 else
  some (.inr (.inl ()))
def k7 (a0:aA) (p8:Int):Option (Unit ⊕ Unit) :=
 fY (fun (w:Int)=>eY a0 w) p8
def gU (a0:aA):Option (Bool) :=
 (lA a0 0).bind fun (r5:Unit ⊕ Unit)=>Sum.elim (fun z6 =>
 (k7 a0 0).bind fun (r11:Unit ⊕ Unit)=>Sum.elim (fun z12 =>
  if decide ((a0.Currencies.length:Int) < 50) = true then
    if decide ((a0.Cities.length:Int) < 50) = true then
     if decide ((a0.Groups.length:Int) < 50) = true then
      if decide ((a0.Firms.length:Int) < 210) = true then
       if decide ((a0.Orders.length:Int) < 50) = true then
        if decide ((a0.Usances.length:Int) < 110) = true then
         if decide ((a0.Rates.length:Int) < 110) = true then
          some (decide ((a0.Halts.length:Int) < 50))
         else
          some false
        else
         some false
       else
        some false
      else
       some false
     else
      some false
    else
     some false
   else
    some false) (fun z13 =>
  some false) r11) (fun z7 =>
 some false) r5
def iA (a0:aB):Option (Bool) :=
 if decide ((a0.Signs.length:Int) ≤ 50) = true then
  if decide ((a0.Alters.length:Int) ≤ 10) = true then
   if decide ((a0.Acts.length:Int) ≤ 110) = true then
    some (decide ((a0.Facts.length:Int) ≤ 220))
   else
    some false
  else
   some false
 else
  some false
def eI (a0:aB) (a1:aB) (p1:Int):Option ((Int) ⊕ (Unit ⊕ Unit)) :=
 if decide (p1 < (a0.Signs.length:Int)) = true then
  (at? a0.Signs p1).bind fun (x2:aO) =>
  (at? a1.Signs p1).bind fun (x3:aO) =>
  if (!((x2.Kind == x3.Kind) && ((x2.Part == x3.Part) && ((x2.Who == x3.Who) && ((x2.For == x3.For) && ((x2.To == x3.To) && ((x2.Sum == x3.Sum) && ((x2.Day == x3.Day) && ((x2.City == x3.City) && (x2.Flags == x3.Flags)))))))))) = true then
   some (.inr (.inr (())))
  else
   some (.inl (IntKind.wrap .i64 (p1 + 1)))
 else
  some (.inr (.inl ()))
def kK (a0:aB) (a1:aB) (p1:Int):Option (Unit ⊕ Unit) :=
 fY (fun (w:Int)=>eI a0 a1 w) p1
def eM (a0:aB) (a1:aB) (p7:Int):Option ((Int) ⊕ (Unit ⊕ Unit)) :=
 if decide (p7 < (a0.Alters.length:Int)) = true then
  (at? a0.Alters p7).bind fun (x8:aZ) =>
  (at? a1.Alters p7).bind fun (x9:aZ) =>
  if (!((x8.At == x9.At) && (x8.Sum == x9.Sum))) = true then
   some (.inr (.inr (())))
  else
   some (.inl (IntKind.wrap .i64 (p7 + 1)))
 else
  some (.inr (.inl ()))
def kM (a0:aB) (a1:aB) (p7:Int):Option (Unit ⊕ Unit) :=
 fY (fun (w:Int)=>eM a0 a1 w) p7
def eO (a0:aB) (a1:aB) (p13:Int):Option ((Int) ⊕ (Unit ⊕ Unit)) :=
 if decide (p13 < (a0.Acts.length:Int)) = true then
  (at? a0.Acts p13).bind fun (x14:bB) =>
  (at? a1.Acts p13).bind fun (x15:bB) =>
  if (!((x14.Kind == x15.Kind) && ((x14.Who == x15.Who) && ((x14.To == x15.To) && ((x14.Part == x15.Part) && ((x14.At == x15.At) && ((x14.Sum == x15.Sum) && ((x14.Day == x15.Day) && ((x14.City == x15.City) && (x14.Form == x15.Form)))))))))) = true then
   some (.inr (.inr (())))
  else
   some (.inl (IntKind.wrap .i64 (p13 + 1)))
 else
  some (.inr (.inl ()))
def kN (a0:aB) (a1:aB) (p13:Int):Option (Unit ⊕ Unit) :=
 fY (fun (w:Int)=>eO a0 a1 w) p13
def eN (a0:aB) (a1:aB) (p19:Int):Option ((Int) ⊕ (Unit ⊕ Unit)) :=
 if decide (p19 < (a0.Facts.length:Int)) = true then
  (at? a0.Facts p19).bind fun (x20:bG) =>
  (at? a1.Facts p19).bind fun (x21:bG) =>
  if (!((x20.Kind == x21.Kind) && ((x20.At == x21.At) && (x20.N == x21.N)))) = true then
   some (.inr (.inr (())))
  else
   some (.inl (IntKind.wrap .i64 (p19 + 1)))
 else
  some (.inr (.inl ()))
def kI (a0:aB) (a1:aB) (p19:Int):Option (Unit ⊕ Unit) :=
 fY (fun (w:Int)=>eN a0 a1 w) p19
def fJ (a0:aB) (a1:aB):Option (Bool) :=
 if (!((a0.Bill.Drawer == a1.Bill.Drawer) && ((a0.Bill.Drawee == a1.Bill.Drawee) && ((a0.Bill.Payee == a1.Bill.Payee) && ((a0.Bill.Sum == a1.Bill.Sum) && ((a0.Bill.Currency == a1.Bill.Currency) && ((a0.Bill.Tenor.Kind == a1.Bill.Tenor.Kind) && ((a0.Bill.Tenor.N == a1.Bill.Tenor.N) && ((a0.Bill.Tenor.Unit == a1.Bill.Tenor.Unit) && ((a0.Bill.Day == a1.Bill.Day) && ((a0.Bill.City == a1.Bill.City) && ((a0.Bill.Pay == a1.Bill.Pay) && ((a0.Bill.Need == a1.Bill.Need) && ((a0.Bill.Rate == a1.Bill.Rate) && ((a0.Bill.Flags == a1.Bill.Flags) && (a0.Bill.Parts == a1.Bill.Parts)))))))))))))))) = true then
  some false
 else
  if ((a0.Signs.length:Int) != (a1.Signs.length:Int)) = true then
   some false
  else
   if ((a0.Alters.length:Int) != (a1.Alters.length:Int)) = true then
    some false
   else
    if ((a0.Acts.length:Int) != (a1.Acts.length:Int)) = true then
     some false
    else
     if ((a0.Facts.length:Int) != (a1.Facts.length:Int)) = true then
      some false
     else
      (kK a0 a1 0).bind fun (r4:Unit ⊕ Unit)=>Sum.elim (fun z5 =>
      (kM a0 a1 0).bind fun (r10:Unit ⊕ Unit)=>Sum.elim (fun z11 =>
       (kN a0 a1 0).bind fun (r16:Unit ⊕ Unit)=>Sum.elim (fun z17 =>
        (kI a0 a1 0).bind fun (r22:Unit ⊕ Unit)=>Sum.elim (fun z23 =>
         some true) (fun z24 =>
         some false) r22) (fun z18 =>
        some false) r16) (fun z12 =>
       some false) r10) (fun z6 =>
      some false) r4
def iE (a0:aA) (p1:Int) (p2:List ByteArray):Option ((Int × (List ByteArray)) ⊕ ((List ByteArray))) :=
 if decide (p1 < (a0.Cities.length:Int)) = true then
  (at? a0.Cities p1).bind fun (x3:bJ) =>
  if (p2.length + 1) * 16 ≤ 140737488355328 then
   some (.inl (IntKind.wrap .i64 (p1 + 1),p2 ++ [x3.Name]))
  else none
 else
  some (.inr (p2))
def qC (a0:aA) (p1:Int) (p2:List ByteArray):Option ((List ByteArray)) :=
 fY (fun (w:Int × (List ByteArray))=>iE a0 w.1 w.2) (p1,p2)
def iB (a0:aA) (r5:(List ByteArray)) (p6:Int) (p7:List ByteArray):Option ((Int × (List ByteArray)) ⊕ ((List ByteArray))) :=
 if decide (p6 < (a0.Firms.length:Int)) = true then
  (at? a0.Firms p6).bind fun (x8:bU) =>
  if (p7.length + 1) * 16 ≤ 140737488355328 then
   some (.inl (IntKind.wrap .i64 (p6 + 1),p7 ++ [x8.Name]))
  else none
 else
  some (.inr (p7))
def pS (a0:aA) (r5:(List ByteArray)) (p6:Int) (p7:List ByteArray):Option ((List ByteArray)) :=
 fY (fun (w:Int × (List ByteArray))=>iB a0 r5 w.1 w.2) (p6,p7)
def gT (a0:aA) (r10:(List ByteArray)) (r5:(List ByteArray)) (p11:Int) (p12:List ByteArray):Option ((Int × (List ByteArray)) ⊕ ((List ByteArray))) :=
 if decide (p11 < (a0.Orders.length:Int)) = true then
  (at? a0.Orders p11).bind fun (x13:bC) =>
  if (p12.length + 1) * 16 ≤ 140737488355328 then
   some (.inl (IntKind.wrap .i64 (p11 + 1),p12 ++ [x13.Name]))
  else none
 else
  some (.inr (p12))
def qF (a0:aA) (r10:(List ByteArray)) (r5:(List ByteArray)) (p11:Int) (p12:List ByteArray):Option ((List ByteArray)) :=
 fY (fun (w:Int × (List ByteArray))=>gT a0 r10 r5 w.1 w.2) (p11,p12)
def pC (a0:aA):Option ((List ByteArray) × (List ByteArray) × (List ByteArray)) :=
 (qC a0 0 []).bind fun (r5:(List ByteArray)) =>
 (pS a0 r5 0 []).bind fun (r10:(List ByteArray)) =>
 (qF a0 r10 r5 0 []).bind fun (r15:(List ByteArray)) =>
 some (r5,r10,r15)
def fO (a0:ByteArray) (p1:Int) (x2:Int) (p3:Bool):Option (Unit ⊕ Unit) :=
 if (!(p3)) = true then
  if (p1 == 0) = true then
   some (.inr (()))
  else
   if (x2 != 95) = true then
    if decide (x2 < 48) = true then
     some (.inr (()))
    else
     if decide (x2 > 57) = true then
      some (.inr (()))
     else
      some (.inl ())
   else
    some (.inl ())
 else
  some (.inl ())
def gH (a0:ByteArray) (p1:Int):Option ((Int) ⊕ (Unit ⊕ Unit)) :=
 if decide (p1 < ((kQ a0).length:Int)) = true then
  (at? (kQ a0) p1).bind fun (x2:Int) =>
  if decide (x2 ≥ 97) = true then
   if decide (x2 ≤ 122) = true then
    (fO a0 p1 x2 true).bind fun (r4:Unit ⊕ Unit)=>Sum.elim (fun z5 =>
    some (.inl (IntKind.wrap .i64 (p1 + 1)))) (fun z6 =>
    some (.inr (.inr (())))) r4
   else
    if decide (x2 ≥ 65) = true then
     (fO a0 p1 x2 (decide (x2 ≤ 90))).bind fun (r7:Unit ⊕ Unit)=>Sum.elim (fun z8 =>
     some (.inl (IntKind.wrap .i64 (p1 + 1)))) (fun z9 =>
     some (.inr (.inr (())))) r7
    else
     (fO a0 p1 x2 false).bind fun (r10:Unit ⊕ Unit)=>Sum.elim (fun z11 =>
     some (.inl (IntKind.wrap .i64 (p1 + 1)))) (fun z12 =>
     some (.inr (.inr (())))) r10
  else
   if decide (x2 ≥ 65) = true then
    (fO a0 p1 x2 (decide (x2 ≤ 90))).bind fun (r13:Unit ⊕ Unit)=>Sum.elim (fun z14 =>
    some (.inl (IntKind.wrap .i64 (p1 + 1)))) (fun z15 =>
    some (.inr (.inr (())))) r13
   else
    (fO a0 p1 x2 false).bind fun (r16:Unit ⊕ Unit)=>Sum.elim (fun z17 =>
    some (.inl (IntKind.wrap .i64 (p1 + 1)))) (fun z18 =>
    some (.inr (.inr (())))) r16
 else
  some (.inr (.inl ()))
def o8 (a0:ByteArray) (p1:Int):Option (Unit ⊕ Unit) :=
 fY (fun (w:Int)=>gH a0 w) p1
def nN (a0:ByteArray):Option (Bool) :=
 if (a0.toList == ByteArray.empty.toList) = true then
  some false
 else
  if decide ((a0.size:Int) > 20) = true then
   some false
  else
   (o8 a0 0).bind fun (r19:Unit ⊕ Unit)=>Sum.elim (fun z20 =>
   some true) (fun z21 =>
   some false) r19
def cP (a0:List ByteArray) (a1:ByteArray) (p1:Int):Option ((Int) ⊕ (Unit ⊕ Int)) :=
 if decide (p1 < (a0.length:Int)) = true then
  (at? a0 p1).bind fun (x2:ByteArray) =>
  if (a1.toList == x2.toList) = true then
   some (.inr (.inr (p1)))
  else
   some (.inl (IntKind.wrap .i64 (p1 + 1)))
 else
  some (.inr (.inl ()))
def fN (a0:List ByteArray) (a1:ByteArray) (p1:Int):Option (Unit ⊕ Int) :=
 fY (fun (w:Int)=>cP a0 a1 w) p1
def eB (a0:List ByteArray) (a1:ByteArray):Option (Int) :=
 (fN a0 a1 0).bind fun (r4:Unit ⊕ Int)=>Sum.elim (fun z5 =>
 some (-1)) (fun z6 =>
 some z6) r4
def dO (a0:List ByteArray) (a1:ByteArray):Option (Bool) :=
 (eB a0 a1).bind fun (r1:Int) =>
 some (decide (r1 ≥ 0))
def iV (a0:List ByteArray) (a1:Int):Option (Int) :=
 (at? a0 a1).bind fun (x1:ByteArray) =>
 (nN x1).bind fun (r2:Bool) =>
 if (!(r2)) = true then
  some 2
 else
  if fW a0.length 0 a1 then
   (at? a0 a1).bind fun (x3:ByteArray) =>
   (dO (dB a0 0 a1) x3).bind fun (r4:Bool) =>
   if r4 = true then
    some 5
   else
    some 0
  else none
def oL (a0:Int):Option (Bool) :=
 some true
def jX (a0:List ByteArray) (p1:Int):Option ((Int) ⊕ (Unit ⊕ Int)) :=
 if decide (p1 < (a0.length:Int)) = true then
  (iV a0 p1).bind fun (r2:Int) =>
  if (r2 != 0) = true then
   some (.inr (.inr (r2)))
  else
   (oL p1).bind fun (r3:Bool) =>
   if (!(r3)) = true then
    some (.inr (.inr (1)))
   else
    some (.inl (IntKind.wrap .i64 (p1 + 1)))
 else
  some (.inr (.inl ()))
def rY (a0:List ByteArray) (p1:Int):Option (Unit ⊕ Int) :=
 fY (fun (w:Int)=>jX a0 w) p1
def lV (a0:List ByteArray) (a1:Int):Option (Int) :=
 if decide ((a0.length:Int) > a1) = true then
  some 6
 else
  (rY a0 0).bind fun (r5:Unit ⊕ Int)=>Sum.elim (fun z6 =>
  some 0) (fun z7 =>
  some z7) r5
def gG (a0:List Int) (a1:Int) (a2:Int) (p1:Int):Option ((Int) ⊕ (Unit ⊕ Unit)) :=
 if decide (p1 < (a0.length:Int)) = true then
  (at? a0 p1).bind fun (x2:Int) =>
  if decide (x2 < a1) = true then
   some (.inr (.inr (())))
  else
   if decide (x2 > a2) = true then
    some (.inr (.inr (())))
   else
    if decide (p1 > 0) = true then
     (at? a0 (IntKind.wrap .i64 (p1 - 1))).bind fun (x3:Int) =>
     if decide (x2 ≤ x3) = true then
      some (.inr (.inr (())))
     else
      some (.inl (IntKind.wrap .i64 (p1 + 1)))
    else
     some (.inl (IntKind.wrap .i64 (p1 + 1)))
 else
  some (.inr (.inl ()))
def o4 (a0:List Int) (a1:Int) (a2:Int) (p1:Int):Option (Unit ⊕ Unit) :=
 fY (fun (w:Int)=>gG a0 a1 a2 w) p1
def gN (a0:List Int) (a1:Int) (a2:Int):Option (Bool) :=
 (o4 a0 a1 a2 0).bind fun (r4:Unit ⊕ Unit)=>Sum.elim (fun z5 =>
 some true) (fun z6 =>
 some false) r4
def iU (a0:aA) (a1:bJ) (p1:Int):Option ((Int) ⊕ (Unit ⊕ Unit)) :=
 if decide (p1 < (a1.Feasts.length:Int)) = true then
  (at? a1.Feasts p1).bind fun (x2:Int) =>
  if decide ((x2.tmod 100) < 1) = true then
   some (.inr (.inr (())))
  else
   if decide ((x2.tmod 100) > 31) = true then
    some (.inr (.inr (())))
   else
    some (.inl (IntKind.wrap .i64 (p1 + 1)))
 else
  some (.inr (.inl ()))
def rZ (a0:aA) (a1:bJ) (p1:Int):Option (Unit ⊕ Unit) :=
 fY (fun (w:Int)=>iU a0 a1 w) p1
def qZ (a0:aA) (a1:bJ):Option (Bool) :=
 (rZ a0 a1 0).bind fun (r3:Unit ⊕ Unit)=>Sum.elim (fun z4 =>
 if decide ((a1.Feasts.length:Int) > 60) = true then
   some false
  else
   if decide ((a1.Shut.length:Int) > 200) = true then
    some false
   else
    (fI a1.Order (a0.Orders.length:Int)).bind fun (r6:Bool) =>
    if (!(r6)) = true then
     some false
    else
     (fI a1.Currency (a0.Currencies.length:Int)).bind fun (r7:Bool) =>
     if (!(r7)) = true then
      some false
     else
      (gN a1.Rest 0 6).bind fun (r8:Bool) =>
      if r8 = true then
       (gN a1.Feasts 101 1231).bind fun (r9:Bool) =>
       if r9 = true then
        (gN a1.Shut 0 100000).bind fun (r10:Bool) =>
        some r10
       else
        some false
      else
       some false) (fun z5 =>
 some false) r3
def jI (a0:Int) (a1:aA):Option (Bool) :=
 (at? a1.Cities a0).bind fun (x1:bJ) =>
 (qZ a1 x1).bind fun (r2:Bool) =>
 some r2
def jW (a0:List ByteArray) (a2:aA) (p1:Int):Option ((Int) ⊕ (Unit ⊕ Int)) :=
 if decide (p1 < (a0.length:Int)) = true then
  (iV a0 p1).bind fun (r2:Int) =>
  if (r2 != 0) = true then
   some (.inr (.inr (r2)))
  else
   (jI p1 a2).bind fun (r3:Bool) =>
   if (!(r3)) = true then
    some (.inr (.inr (1)))
   else
    some (.inl (IntKind.wrap .i64 (p1 + 1)))
 else
  some (.inr (.inl ()))
def rD (a0:List ByteArray) (a2:aA) (p1:Int):Option (Unit ⊕ Int) :=
 fY (fun (w:Int)=>jW a0 a2 w) p1
def mH (a0:List ByteArray) (a1:Int) (a2:aA):Option (Int) :=
 if decide ((a0.length:Int) > a1) = true then
  some 6
 else
  (rD a0 a2 0).bind fun (r5:Unit ⊕ Int)=>Sum.elim (fun z6 =>
  some 0) (fun z7 =>
  some z7) r5
def jJ (a0:Int) (a1:aA):Option (Bool) :=
 (at? a1.Firms a0).bind fun (x1:bU) =>
 (fI x1.City (a1.Cities.length:Int)).bind fun (r2:Bool) =>
 if r2 = true then
  (at? a1.Firms a0).bind fun (x3:bU) =>
  (fI x3.Group (a1.Groups.length:Int)).bind fun (r4:Bool) =>
  some r4
 else
  some false
def jV (a0:List ByteArray) (a2:aA) (p1:Int):Option ((Int) ⊕ (Unit ⊕ Int)) :=
 if decide (p1 < (a0.length:Int)) = true then
  (iV a0 p1).bind fun (r2:Int) =>
  if (r2 != 0) = true then
   some (.inr (.inr (r2)))
  else
   (jJ p1 a2).bind fun (r3:Bool) =>
   if (!(r3)) = true then
    some (.inr (.inr (1)))
   else
    some (.inl (IntKind.wrap .i64 (p1 + 1)))
 else
  some (.inr (.inl ()))
def sF (a0:List ByteArray) (a2:aA) (p1:Int):Option (Unit ⊕ Int) :=
 fY (fun (w:Int)=>jV a0 a2 w) p1
def mI (a0:List ByteArray) (a1:Int) (a2:aA):Option (Int) :=
 if decide ((a0.length:Int) > a1) = true then
  some 6
 else
  (sF a0 a2 0).bind fun (r5:Unit ⊕ Int)=>Sum.elim (fun z6 =>
  some 0) (fun z7 =>
  some z7) r5
def gW (a0:bC) (p1:Int) (p2:List Int):Option ((Int × (List Int)) ⊕ (((List Int)) ⊕ Unit)) :=
 if decide (p1 < (a0.Choices.length:Int)) = true then
  (at? a0.Choices p1).bind fun (x3:bE) =>
  if (p2.length + 1) * 8 ≤ 140737488355328 then
   (fI x3.By 5).bind fun (r4:Bool) =>
   if (!(r4)) = true then
    some (.inr (.inr (())))
   else
    some (.inl (IntKind.wrap .i64 (p1 + 1),p2 ++ [x3.Ask]))
  else none
 else
  some (.inr (.inl p2))
def pY (a0:bC) (p1:Int) (p2:List Int):Option (((List Int)) ⊕ Unit) :=
 fY (fun (w:Int × (List Int))=>gW a0 w.1 w.2) (p1,p2)
def gX (a0:bC) (z7:(List Int)) (p9:Int) (p10:List Int):Option ((Int × (List Int)) ⊕ ((List Int))) :=
 if decide (p9 < (a0.Rules.length:Int)) = true then
  (at? a0.Rules p9).bind fun (x11:bW) =>
  if (p10.length + 1) * 8 ≤ 140737488355328 then
   some (.inl (IntKind.wrap .i64 (p9 + 1),p10 ++ [x11.Ask]))
  else none
 else
  some (.inr (p10))
def qG (a0:bC) (z7:(List Int)) (p9:Int) (p10:List Int):Option ((List Int)) :=
 fY (fun (w:Int × (List Int))=>gX a0 z7 w.1 w.2) (p9,p10)
def o9 (a0:bC):Option (Bool) :=
 (pY a0 0 []).bind fun (r6:((List Int)) ⊕ Unit)=>Sum.elim (fun z7 =>
 (qG a0 z7 0 []).bind fun (r13:(List Int)) =>
  (gN z7 0 21).bind fun (r14:Bool) =>
  if r14 = true then
   (gN r13 0 21).bind fun (r15:Bool) =>
   some r15
  else
   some false) (fun z8 =>
 some false) r6
def jG (a0:Int) (a1:aA):Option (Bool) :=
 (at? a1.Orders a0).bind fun (x1:bC) =>
 (o9 x1).bind fun (r2:Bool) =>
 some r2
def jU (a0:List ByteArray) (a2:aA) (p1:Int):Option ((Int) ⊕ (Unit ⊕ Int)) :=
 if decide (p1 < (a0.length:Int)) = true then
  (iV a0 p1).bind fun (r2:Int) =>
  if (r2 != 0) = true then
   some (.inr (.inr (r2)))
  else
   (jG p1 a2).bind fun (r3:Bool) =>
   if (!(r3)) = true then
    some (.inr (.inr (1)))
   else
    some (.inl (IntKind.wrap .i64 (p1 + 1)))
 else
  some (.inr (.inl ()))
def sM (a0:List ByteArray) (a2:aA) (p1:Int):Option (Unit ⊕ Int) :=
 fY (fun (w:Int)=>jU a0 a2 w) p1
def mA (a0:List ByteArray) (a1:Int) (a2:aA):Option (Int) :=
 if decide ((a0.length:Int) > a1) = true then
  some 6
 else
  (sM a0 a2 0).bind fun (r5:Unit ⊕ Int)=>Sum.elim (fun z6 =>
  some 0) (fun z7 =>
  some z7) r5
def fR (a0:aA) (p1:Int) (x2:bA) (p5:Int):Option ((Int) ⊕ (Unit ⊕ Unit)) :=
 if decide (p5 < ((dB a0.Usances 0 p1).length:Int)) = true then
  (at? (dB a0.Usances 0 p1) p5).bind fun (x6:bA) =>
  if (x6.From == x2.From) = true then
   if (x6.To == x2.To) = true then
    some (.inr (.inr (())))
   else
    some (.inl (IntKind.wrap .i64 (p5 + 1)))
  else
   some (.inl (IntKind.wrap .i64 (p5 + 1)))
 else
  some (.inr (.inl ()))
def nR (a0:aA) (p1:Int) (x2:bA) (p5:Int):Option (Unit ⊕ Unit) :=
 fY (fun (w:Int)=>fR a0 p1 x2 w) p5
def fQ (a0:aA) (p1:Int):Option ((Int) ⊕ (Unit ⊕ Int)) :=
 if decide (p1 < (a0.Usances.length:Int)) = true then
  (at? a0.Usances p1).bind fun (x2:bA) =>
  (fI x2.From (a0.Cities.length:Int)).bind fun (r3:Bool) =>
  if (!(r3)) = true then
   some (.inr (.inr (1)))
  else
   (fI x2.To (a0.Cities.length:Int)).bind fun (r4:Bool) =>
   if (!(r4)) = true then
    some (.inr (.inr (1)))
   else
    if decide (x2.Days < 1) = true then
     some (.inr (.inr (1)))
    else
     if decide (x2.Days > 20000) = true then
      some (.inr (.inr (1)))
     else
      if fW a0.Usances.length 0 p1 then
       (nR a0 p1 x2 0).bind fun (r7:Unit ⊕ Unit)=>Sum.elim (fun z8 =>
       some (.inl (IntKind.wrap .i64 (p1 + 1)))) (fun z9 =>
       some (.inr (.inr (5)))) r7
      else none
 else
  some (.inr (.inl ()))
def rK (a0:aA) (p1:Int):Option (Unit ⊕ Int) :=
 fY (fun (w:Int)=>fQ a0 w) p1
def mD (a0:aA):Option (Int) :=
 if decide ((a0.Usances.length:Int) > 100) = true then
  some 6
 else
  (rK a0 0).bind fun (r11:Unit ⊕ Int)=>Sum.elim (fun z12 =>
  some 0) (fun z13 =>
  some z13) r11
def iQ (a0:aA) (p1:Int):Option ((Int) ⊕ (Unit ⊕ Unit)) :=
 if decide (p1 < (a0.Rates.length:Int)) = true then
  (at? a0.Rates p1).bind fun (x2:bV) =>
  (fI x2.From (a0.Currencies.length:Int)).bind fun (r3:Bool) =>
  if (!(r3)) = true then
   some (.inr (.inr (())))
  else
   (fI x2.To (a0.Currencies.length:Int)).bind fun (r4:Bool) =>
   if (!(r4)) = true then
    some (.inr (.inr (())))
   else
    if (x2.From == x2.To) = true then
     some (.inr (.inr (())))
    else
     (fI (IntKind.wrap .i64 (x2.Num - 1)) 1073741824).bind fun (r5:Bool) =>
     if (!(r5)) = true then
      some (.inr (.inr (())))
     else
      (fI (IntKind.wrap .i64 (x2.Den - 1)) 1073741824).bind fun (r6:Bool) =>
      if (!(r6)) = true then
       some (.inr (.inr (())))
      else
       (fI x2.Since 100001).bind fun (r7:Bool) =>
       if (!(r7)) = true then
        some (.inr (.inr (())))
       else
        some (.inl (IntKind.wrap .i64 (p1 + 1)))
 else
  some (.inr (.inl ()))
def rR (a0:aA) (p1:Int):Option (Unit ⊕ Unit) :=
 fY (fun (w:Int)=>iQ a0 w) p1
def iS (a0:aA) (p11:Int):Option ((Int) ⊕ (Unit ⊕ Unit)) :=
 if decide (p11 < (a0.Halts.length:Int)) = true then
  (at? a0.Halts p11).bind fun (x12:bZ) =>
  (fI x12.Order (a0.Orders.length:Int)).bind fun (r13:Bool) =>
  if (!(r13)) = true then
   some (.inr (.inr (())))
  else
   if decide (x12.From < 0) = true then
    some (.inr (.inr (())))
   else
    if decide (x12.From > x12.To) = true then
     some (.inr (.inr (())))
    else
     if decide (x12.To > 100000) = true then
      some (.inr (.inr (())))
     else
      some (.inl (IntKind.wrap .i64 (p11 + 1)))
 else
  some (.inr (.inl ()))
def sD (a0:aA) (p11:Int):Option (Unit ⊕ Unit) :=
 fY (fun (w:Int)=>iS a0 w) p11
def qV (a0:aA):Option (Int) :=
 if decide ((a0.Rates.length:Int) > 100) = true then
  some 6
 else
  (rR a0 0).bind fun (r8:Unit ⊕ Unit)=>Sum.elim (fun z9 =>
  if decide ((a0.Halts.length:Int) > 20) = true then
    some 6
   else
    (sD a0 0).bind fun (r14:Unit ⊕ Unit)=>Sum.elim (fun z15 =>
    some 0) (fun z16 =>
    some 1) r14) (fun z10 =>
  some 1) r8
def gQ (a0:aA) (r1:(List ByteArray) × (List ByteArray) × (List ByteArray)) (p4:Int):Option ((Int) ⊕ (Unit ⊕ Unit)) :=
 if decide (p4 < (a0.Groups.length:Int)) = true then
  (at? a0.Groups p4).bind fun (x5:bN) =>
  (fI x5.Grade 10).bind fun (r6:Bool) =>
  if (!(r6)) = true then
   some (.inr (.inr (())))
  else
   some (.inl (IntKind.wrap .i64 (p4 + 1)))
 else
  some (.inr (.inl ()))
def qH (a0:aA) (r1:(List ByteArray) × (List ByteArray) × (List ByteArray)) (p4:Int):Option (Unit ⊕ Unit) :=
 fY (fun (w:Int)=>gQ a0 r1 w) p4
def pA (a0:aA):Option (Int) :=
 (pC a0).bind fun (r1:(List ByteArray) × (List ByteArray) × (List ByteArray)) =>
 (lV a0.Currencies 8).bind fun (r2:Int) =>
 if (r2 != 0) = true then
  some r2
 else
  (mH r1.1 40 a0).bind fun (r3:Int) =>
  if (r3 != 0) = true then
   some r3
  else
   if decide ((a0.Groups.length:Int) > 20) = true then
    some 6
   else
    (qH a0 r1 0).bind fun (r7:Unit ⊕ Unit)=>Sum.elim (fun z8 =>
    (mI r1.2.1 200 a0).bind fun (r10:Int) =>
     if (r10 != 0) = true then
      some r10
     else
      (mA r1.2.2 20 a0).bind fun (r11:Int) =>
      if (r11 != 0) = true then
       some r11
      else
       (mD a0).bind fun (r12:Int) =>
       if (r12 != 0) = true then
        some r12
       else
        (qV a0).bind fun (r13:Int) =>
        some r13) (fun z9 =>
    some 1) r7
def eH (a0:Int) (a1:Int):Option (Bool) :=
 if decide (a0 ≥ 0) = true then
  some (decide (a0 < a1))
 else
  some false
def jC (a0:bD):Option (Unit ⊕ Bool) :=
 if (a0.Tenor.Kind == 3) = true then
  if decide (a0.Tenor.N ≥ a0.Day) = true then
   if decide (a0.Tenor.N ≤ 100000) = true then
    some (.inr (a0.Tenor.Unit == 0))
   else
    some (.inr (false))
  else
   some (.inr (false))
 else
  some (.inl ())
def jL (a0:bD):Option (Unit ⊕ Bool) :=
 if (a0.Tenor.Kind == 1) = true then
  if (a0.Tenor.Kind == 1) = true then
   if decide (a0.Tenor.N ≥ 1) = true then
    if decide (a0.Tenor.N ≤ 400) = true then
     if (a0.Tenor.Unit == 0) = true then
      some (.inr (true))
     else
      some (.inr (a0.Tenor.Unit == 1))
    else
     some (.inr (false))
   else
    some (.inr (false))
  else
   (jC a0).bind fun (r2:Unit ⊕ Bool)=>Sum.elim (fun z3 =>
   some (.inl ())) (fun z4 =>
   some (.inr (z4))) r2
 else
  if (a0.Tenor.Kind == 2) = true then
   if decide (a0.Tenor.N ≥ 1) = true then
    if decide (a0.Tenor.N ≤ 400) = true then
     if (a0.Tenor.Unit == 0) = true then
      some (.inr (true))
     else
      some (.inr (a0.Tenor.Unit == 1))
    else
     some (.inr (false))
   else
    some (.inr (false))
  else
   (jC a0).bind fun (r5:Unit ⊕ Bool)=>Sum.elim (fun z6 =>
   some (.inl ())) (fun z7 =>
   some (.inr (z7))) r5
def kF (a0:bD):Option (Bool) :=
 if (a0.Tenor.Kind == 0) = true then
  if (a0.Tenor.Kind == 0) = true then
   if (a0.Tenor.N == 0) = true then
    some (a0.Tenor.Unit == 0)
   else
    some false
  else
   (jL a0).bind fun (r9:Unit ⊕ Bool)=>Sum.elim (fun z10 =>
   some false) (fun z11 =>
   some z11) r9
 else
  if (a0.Tenor.Kind == 4) = true then
   if (a0.Tenor.N == 0) = true then
    some (a0.Tenor.Unit == 0)
   else
    some false
  else
   (jL a0).bind fun (r12:Unit ⊕ Bool)=>Sum.elim (fun z13 =>
   some false) (fun z14 =>
   some z14) r12
def gI (a0:aA) (a1:Int) (a2:Int) (p1:Int):Option ((Int) ⊕ (Unit ⊕ Int)) :=
 if decide (p1 < (a0.Usances.length:Int)) = true then
  (at? a0.Usances p1).bind fun (x2:bA) =>
  if (x2.From == a1) = true then
   if (x2.To == a2) = true then
    some (.inr (.inr (x2.Days)))
   else
    some (.inl (IntKind.wrap .i64 (p1 + 1)))
  else
   some (.inl (IntKind.wrap .i64 (p1 + 1)))
 else
  some (.inr (.inl ()))
def o7 (a0:aA) (a1:Int) (a2:Int) (p1:Int):Option (Unit ⊕ Int) :=
 fY (fun (w:Int)=>gI a0 a1 a2 w) p1
def nK (a0:aA) (a1:Int) (a2:Int):Option (Int × Int) :=
 (o7 a0 a1 a2 0).bind fun (r4:Unit ⊕ Int)=>Sum.elim (fun z5 =>
 some (0,4)) (fun z6 =>
 some (z6,0)) r4
def lB (a0:aA) (a1:bD):Option (Unit ⊕ Unit) :=
 if decide (a1.Flags < 0) = true then
  some (.inr (()))
 else
  if decide (a1.Flags > 7) = true then
   some (.inr (()))
  else
   if ((IntKind.wrap .i64 (BitVec.ofInt (IntKind.bits .i64) a1.Flags &&& BitVec.ofInt (IntKind.bits .i64) 4).toNat) != 0) = true then
    if (a1.Payee == (-1)) = true then
     some (.inr (()))
    else
     (kF a1).bind fun (r11:Bool) =>
     if (!(r11)) = true then
      some (.inr (()))
     else
      some (.inl ())
   else
    (kF a1).bind fun (r12:Bool) =>
    if (!(r12)) = true then
     some (.inr (()))
    else
     some (.inl ())
def kV (a0:aA) (a1:bD):Option (Unit ⊕ Int) :=
 if decide (a1.Parts < 1) = true then
  some (.inr (15))
 else
  if decide (a1.Parts > 4) = true then
   some (.inr (15))
  else
   (lB a0 a1).bind fun (r13:Unit ⊕ Unit)=>Sum.elim (fun z14 =>
   some (.inl ())) (fun z15 =>
   some (.inr (2))) r13
def hY (a0:aA) (a1:bD):Option (Unit ⊕ Int) :=
 if decide (a1.Sum < 1) = true then
  some (.inr (3))
 else
  if decide (a1.Sum > 1099511627776) = true then
   some (.inr (3))
  else
   if decide (a1.Day < 0) = true then
    some (.inr (3))
   else
    if decide (a1.Day > 100000) = true then
     some (.inr (3))
    else
     if decide (a1.Rate < 0) = true then
      some (.inr (3))
     else
      if decide (a1.Rate > 1000) = true then
       some (.inr (3))
      else
       (kV a0 a1).bind fun (r17:Unit ⊕ Int)=>Sum.elim (fun z18 =>
       some (.inl ())) (fun z19 =>
       some (.inr (z19))) r17
def cV (a0:aA) (a1:bD) (p7:Bool):Option (Int) :=
 if (!(p7)) = true then
  some (1)
 else
  (eH a1.Currency (a0.Currencies.length:Int)).bind fun (r8:Bool) =>
  if (!(r8)) = true then
   some (1)
  else
   (eH a1.City (a0.Cities.length:Int)).bind fun (r9:Bool) =>
   if (!(r9)) = true then
    some (1)
   else
    (eH a1.Pay (a0.Cities.length:Int)).bind fun (r10:Bool) =>
    if (!(r10)) = true then
     some (1)
    else
     (hY a0 a1).bind fun (r21:Unit ⊕ Int)=>Sum.elim (fun z22 =>
     if (a1.Tenor.Kind == 4) = true then
       (nK a0 a1.City a1.Pay).bind fun (r24:Int × Int) =>
       some (r24.2)
      else
       some (0)) (fun z23 =>
     some (z23)) r21
def gB (a0:aA) (a1:bD):Option (Int) :=
 (pA a0).bind fun (r1:Int) =>
 if (r1 != 0) = true then
  some r1
 else
  (eH a1.Drawer (a0.Firms.length:Int)).bind fun (r2:Bool) =>
  if r2 = true then
   (eH a1.Drawee (a0.Firms.length:Int)).bind fun (r3:Bool) =>
   if r3 = true then
    if (a1.Payee == (-1)) = true then
     if (a1.Need == (-1)) = true then
      (cV a0 a1 true).bind fun (r26:Int) =>
      some r26
     else
      (eH a1.Need (a0.Firms.length:Int)).bind fun (r4:Bool) =>
      (cV a0 a1 r4).bind fun (r27:Int) =>
      some r27
    else
     (eH a1.Payee (a0.Firms.length:Int)).bind fun (r5:Bool) =>
     if r5 = true then
      if (a1.Need == (-1)) = true then
       (cV a0 a1 true).bind fun (r28:Int) =>
       some r28
      else
       (eH a1.Need (a0.Firms.length:Int)).bind fun (r6:Bool) =>
       (cV a0 a1 r6).bind fun (r29:Int) =>
       some r29
     else
      (cV a0 a1 false).bind fun (r30:Int) =>
      some r30
   else
    (cV a0 a1 false).bind fun (r31:Int) =>
    some r31
  else
   (cV a0 a1 false).bind fun (r32:Int) =>
   some r32
def cR (a0:Int) (a1:Int) (a2:Int):Option (Bool) :=
 if decide (a0 ≥ a1) = true then
  some (decide (a0 ≤ a2))
 else
  some false
def lE (a0:aB) (a1:Int) (a2:Int):Option (Bool) :=
 if (a1 == 0) = true then
  some true
 else
  (at? a0.Signs a1).bind fun (x1:aO) =>
  some (x1.Part == a2)
def eJ (a0:List Int) (a1:Int) (p1:Int):Option ((Int) ⊕ (Unit ⊕ Int)) :=
 if decide (p1 < (a0.length:Int)) = true then
  (at? a0 p1).bind fun (x2:Int) =>
  if (a1 == x2) = true then
   some (.inr (.inr (p1)))
  else
   some (.inl (IntKind.wrap .i64 (p1 + 1)))
 else
  some (.inr (.inl ()))
def gE (a0:List Int) (a1:Int) (p1:Int):Option (Unit ⊕ Int) :=
 fY (fun (w:Int)=>eJ a0 a1 w) p1
def iL (a0:List Int) (a1:Int):Option (Int) :=
 (gE a0 a1 0).bind fun (r4:Unit ⊕ Int)=>Sum.elim (fun z5 =>
 some (-1)) (fun z6 =>
 some z6) r4
def fC (a0:List Int) (a1:Int):Option (Bool) :=
 (iL a0 a1).bind fun (r1:Int) =>
 some (decide (r1 ≥ 0))
def nA (a0:aB) (a1:Int) (a2:List Int):Option (Bool) :=
 (at? a0.Signs a1).bind fun (x1:aO) =>
 (cR x1.For 0 (IntKind.wrap .i64 (a1 - 1))).bind fun (r2:Bool) =>
 if r2 = true then
  (at? a0.Signs a1).bind fun (x3:aO) =>
  (lE a0 x1.For x3.Part).bind fun (r4:Bool) =>
  if r4 = true then
   (at? a0.Signs x1.For).bind fun (x5:aO) =>
   (fC a2 x5.Kind).bind fun (r6:Bool) =>
   some r6
  else
   some false
 else
  some false
def mF (a0:aA) (a1:aB) (a2:Int) (p2:Bool) (x1:aO) (p4:Bool):Option (Bool) :=
 if (x1.Kind == 0) = true then
  if (x1.Who == a1.Bill.Drawer) = true then
   if (x1.Sum == 0) = true then
    if ((IntKind.wrap .i64 (BitVec.ofInt (IntKind.bits .i64) x1.Flags ||| BitVec.ofInt (IntKind.bits .i64) 1).toNat) == 1) = true then
     if (x1.Part == 0) = true then
      if (x1.Day == a1.Bill.Day) = true then
       some (x1.City == a1.Bill.City)
      else
       some (false)
     else
      some (false)
    else
     some (false)
   else
    some (false)
  else
   some (false)
 else
  if (x1.Kind == 1) = true then
   if (x1.Who == a1.Bill.Drawee) = true then
    some (p4)
   else
    some (false)
  else
   if (x1.Kind == 2) = true then
    (cR x1.To (-1) (IntKind.wrap .i64 ((a0.Firms.length:Int) - 1))).bind fun (r5:Bool) =>
    if r5 = true then
     if (x1.Sum == 0) = true then
      (cR x1.Flags 0 7).bind fun (r6:Bool) =>
      if r6 = true then
       some ((IntKind.wrap .i64 (BitVec.ofInt (IntKind.bits .i64) x1.Flags &&& BitVec.ofInt (IntKind.bits .i64) 6).toNat) != 6)
      else
       some (false)
     else
      some (false)
    else
     some (false)
   else
    if (x1.Kind == 3) = true then
     if p2 = true then
      (nA a1 a2 [0,1,2,4]).bind fun (r7:Bool) =>
      some (r7)
     else
      some (false)
    else
     if (x1.Kind == 4) = true then
      if p4 = true then
       if (x1.Who != a1.Bill.Drawee) = true then
        (nA a1 a2 [0,2]).bind fun (r8:Bool) =>
        some (r8)
       else
        some (false)
      else
       some (false)
     else
      some (false)
def lZ (a0:aA) (a1:aB) (a2:Int) (x1:aO) (p2:Bool):Option (Bool) :=
 (cR x1.Sum 1 1099511627776).bind fun (r3:Bool) =>
 if r3 = true then
  (mF a0 a1 a2 p2 x1 (x1.Flags == 0)).bind fun (r10:Bool) =>
  some (r10)
 else
  (mF a0 a1 a2 p2 x1 false).bind fun (r11:Bool) =>
  some (r11)
def kE (a0:aA) (a1:aB) (a2:Int) (x1:aO):Option (Bool) :=
 if (x1.Sum == 0) = true then
  (lZ a0 a1 a2 x1 (x1.Flags == 0)).bind fun (r13:Bool) =>
  some (r13)
 else
  (lZ a0 a1 a2 x1 false).bind fun (r14:Bool) =>
  some (r14)
def mC (a0:aA) (a1:aB) (a2:Int) (x1:aO):Option (Bool) :=
 if (x1.Kind != 3) = true then
  if (x1.Kind != 4) = true then
   if (x1.For != (-1)) = true then
    some (false)
   else
    (kE a0 a1 a2 x1).bind fun (r16:Bool) =>
    some (r16)
  else
   (kE a0 a1 a2 x1).bind fun (r17:Bool) =>
   some (r17)
 else
  (kE a0 a1 a2 x1).bind fun (r18:Bool) =>
  some (r18)
def oO (a0:aA) (a1:aB) (a2:Int):Option (Bool) :=
 (at? a1.Signs a2).bind fun (x1:aO) =>
 if (!((a2 == 0) == (x1.Kind == 0))) = true then
  some false
 else
  if (x1.Kind != 2) = true then
   if (x1.To != (-1)) = true then
    some false
   else
    (mC a0 a1 a2 x1).bind fun (r20:Bool) =>
    some r20
  else
   (mC a0 a1 a2 x1).bind fun (r21:Bool) =>
   some r21
def iP (a0:aA) (a1:aB) (a2:Int) (x1:aO) (p5:Int) (p6:Bool) (p7:Int):Option ((Int × Bool × Int) ⊕ (Int × Bool)) :=
 if decide (p7 < ((dB a1.Signs 0 a2).length:Int)) = true then
  (at? (dB a1.Signs 0 a2) p7).bind fun (x8:aO) =>
  if p6 = true then
   some (.inl (x8.Day,true,IntKind.wrap .i64 (p7 + 1)))
  else
   if (x1.Kind == 1) = true then
    if (x8.Kind == 1) = true then
     some (.inl (x8.Day,x8.Part == x1.Part,IntKind.wrap .i64 (p7 + 1)))
    else
     some (.inl (x8.Day,false,IntKind.wrap .i64 (p7 + 1)))
   else
    some (.inl (x8.Day,false,IntKind.wrap .i64 (p7 + 1)))
 else
  some (.inr ((p5,p6)))
def oH (a0:aA) (a1:aB) (a2:Int) (x1:aO) (p5:Int) (p6:Bool) (p7:Int):Option (Int × Bool) :=
 fY (fun (w:Int × Bool × Int)=>iP a0 a1 a2 x1 w.1 w.2.1 w.2.2) (p5,p6,p7)
def qN (a0:aA) (a1:aB) (a2:Int):Option (Int) :=
 (at? a1.Signs a2).bind fun (x1:aO) =>
 (cR x1.Part 0 (IntKind.wrap .i64 (a1.Bill.Parts - 1))).bind fun (r2:Bool) =>
 if (!(r2)) = true then
  some 15
 else
  (cR x1.Who 0 (IntKind.wrap .i64 ((a0.Firms.length:Int) - 1))).bind fun (r3:Bool) =>
  if (!(r3)) = true then
   some 1
  else
   (cR x1.City 0 (IntKind.wrap .i64 ((a0.Cities.length:Int) - 1))).bind fun (r4:Bool) =>
   if (!(r4)) = true then
    some 1
   else
    if fW a1.Signs.length 0 a2 then
     (oH a0 a1 a2 x1 a1.Bill.Day false 0).bind fun (r11:Int × Bool) =>
     (cR x1.Day r11.1 100000).bind fun (r12:Bool) =>
     if (!(r12)) = true then
      some 13
     else
      if (a2 == 0) = true then
       if (x1.Day != r11.1) = true then
        some 13
       else
        (oO a0 a1 a2).bind fun (r13:Bool) =>
        if (!(r13)) = true then
         some 14
        else
         if r11.2 = true then
          some 5
         else
          some 0
      else
       (oO a0 a1 a2).bind fun (r14:Bool) =>
       if (!(r14)) = true then
        some 14
       else
        if r11.2 = true then
         some 5
        else
         some 0
    else none
def lJ (a2:bB) (p3:Bool) (p5:Bool) (r6:Bool):Option (Unit ⊕ Bool) :=
 if (a2.Kind == 6) = true then
  if r6 = true then
   if p5 = true then
    (cR a2.Sum 1 1099511627776).bind fun (r10:Bool) =>
    some (.inr (r10))
   else
    some (.inr (false))
  else
   some (.inr (false))
 else
  if (a2.Kind == 9) = true then
   if (a2.To == (-1)) = true then
    if p5 = true then
     some (.inr (a2.Sum == 0))
    else
     some (.inr (false))
   else
    some (.inr (false))
  else
   some (.inl ())
def lI (a2:bB) (p3:Bool) (p5:Bool) (r6:Bool):Option (Unit ⊕ Bool) :=
 if (a2.Kind == 3) = true then
  if (a2.Kind == 3) = true then
   if r6 = true then
    if (a2.At == (-1)) = true then
     (cR a2.Sum 0 1099511627776).bind fun (r8:Bool) =>
     if r8 = true then
      (cR a2.Form 0 1).bind fun (r9:Bool) =>
      some (.inr (r9))
     else
      some (.inr (false))
    else
     some (.inr (false))
   else
    some (.inr (false))
  else
   (lJ a2 p3 p5 r6).bind fun (r12:Unit ⊕ Bool)=>Sum.elim (fun z13 =>
   some (.inl ())) (fun z14 =>
   some (.inr (z14))) r12
 else
  if (a2.Kind == 5) = true then
   if (a2.Kind == 5) = true then
    if r6 = true then
     if (a2.At == (-1)) = true then
      (cR a2.Sum 0 1099511627776).bind fun (r15:Bool) =>
      if r15 = true then
       (cR a2.Form 0 1).bind fun (r16:Bool) =>
       some (.inr (r16))
      else
       some (.inr (false))
     else
      some (.inr (false))
    else
     some (.inr (false))
   else
    (lJ a2 p3 p5 r6).bind fun (r17:Unit ⊕ Bool)=>Sum.elim (fun z18 =>
    some (.inl ())) (fun z19 =>
    some (.inr (z19))) r17
  else
   if (a2.Kind == 4) = true then
    if r6 = true then
     if (a2.At == (-1)) = true then
      (cR a2.Sum 0 1099511627776).bind fun (r20:Bool) =>
      if r20 = true then
       (cR a2.Form 0 1).bind fun (r21:Bool) =>
       some (.inr (r21))
      else
       some (.inr (false))
     else
      some (.inr (false))
    else
     some (.inr (false))
   else
    (lJ a2 p3 p5 r6).bind fun (r22:Unit ⊕ Bool)=>Sum.elim (fun z23 =>
    some (.inl ())) (fun z24 =>
    some (.inr (z24))) r22
def nM (a2:bB) (p3:Bool):Option (Bool) :=
 if (a2.To == (-1)) = true then
  if p3 = true then
   some (a2.Sum == 0)
  else
   some (false)
 else
  some (false)
def nL (a2:bB) (p3:Bool) (p5:Bool) (r6:Bool):Option (Bool) :=
 if (a2.Kind == 0) = true then
  if (a2.Kind == 0) = true then
   if r6 = true then
    if (a2.At == (-1)) = true then
     some (a2.Sum == 0)
    else
     some (false)
   else
    some (false)
  else
   (lI a2 p3 p5 r6).bind fun (r26:Unit ⊕ Bool)=>Sum.elim (fun z27 =>
   (nM a2 p3).bind fun (r36:Bool) =>
    some (r36)) (fun z28 =>
   some (z28)) r26
 else
  if (a2.Kind == 1) = true then
   if (a2.Kind == 1) = true then
    if r6 = true then
     if (a2.At == (-1)) = true then
      some (a2.Sum == 0)
     else
      some (false)
    else
     some (false)
   else
    (lI a2 p3 p5 r6).bind fun (r29:Unit ⊕ Bool)=>Sum.elim (fun z30 =>
    (nM a2 p3).bind fun (r37:Bool) =>
     some (r37)) (fun z31 =>
    some (z31)) r29
  else
   if (a2.Kind == 2) = true then
    if r6 = true then
     if (a2.At == (-1)) = true then
      some (a2.Sum == 0)
     else
      some (false)
    else
     some (false)
   else
    (lI a2 p3 p5 r6).bind fun (r32:Unit ⊕ Bool)=>Sum.elim (fun z33 =>
    (nM a2 p3).bind fun (r38:Bool) =>
     some (r38)) (fun z34 =>
    some (z34)) r32
def lH (a0:aA) (a2:bB) (p3:Bool) (p5:Bool):Option (Bool) :=
 (cR a2.To 0 (IntKind.wrap .i64 ((a0.Firms.length:Int) - 1))).bind fun (r6:Bool) =>
 (cR a2.Who 0 (IntKind.wrap .i64 ((a0.Firms.length:Int) - 1))).bind fun (r7:Bool) =>
 if (!(r7)) = true then
  some (false)
 else
  if (a2.Kind != 4) = true then
   if (a2.Form != 0) = true then
    some (false)
   else
    (nL a2 p3 p5 r6).bind fun (r40:Bool) =>
    some (r40)
  else
   (nL a2 p3 p5 r6).bind fun (r41:Bool) =>
   some (r41)
def lD (a0:aA) (a1:aB) (a2:bB) (p3:Bool):Option (Bool) :=
 if p3 = true then
  (at? a1.Signs a2.At).bind fun (x4:aO) =>
  (lH a0 a2 p3 (x4.Who == a2.Who)).bind fun (r43:Bool) =>
  some (r43)
 else
  (lH a0 a2 p3 false).bind fun (r44:Bool) =>
  some (r44)
def s9 (a0:aA) (a1:aB) (a2:bB):Option (Bool) :=
 (cR a2.At 0 (IntKind.wrap .i64 ((a1.Signs.length:Int) - 1))).bind fun (r1:Bool) =>
 if r1 = true then
  (lE a1 a2.At a2.Part).bind fun (r2:Bool) =>
  (lD a0 a1 a2 r2).bind fun (r46:Bool) =>
  some r46
 else
  (lD a0 a1 a2 false).bind fun (r47:Bool) =>
  some r47
def oI (a0:aA) (a1:aB) (p1:Int) (x2:bB) (p10:Int):Option (Unit ⊕ Unit) :=
 (cR x2.Day p10 100000).bind fun (r11:Bool) =>
 if (!(r11)) = true then
  some (.inr (()))
 else
  some (.inl ())
def l9 (a0:aA) (a1:aB) (p1:Int) (x2:bB) (p8:Int):Option (Unit ⊕ Unit) :=
 if decide (p1 > 0) = true then
  (at? a1.Acts (IntKind.wrap .i64 (p1 - 1))).bind fun (x9:bB) =>
  (oI a0 a1 p1 x2 (if x9.Day > p8 then x9.Day else p8)).bind fun (r12:Unit ⊕ Unit)=>Sum.elim (fun z13 =>
  some (.inl ())) (fun z14 =>
  some (.inr (()))) r12
 else
  (oI a0 a1 p1 x2 p8).bind fun (r15:Unit ⊕ Unit)=>Sum.elim (fun z16 =>
  some (.inl ())) (fun z17 =>
  some (.inr (()))) r15
def iT (a0:aA) (a1:aB) (p1:Int):Option ((Int) ⊕ (Unit ⊕ Int)) :=
 if decide (p1 < (a1.Acts.length:Int)) = true then
  (at? a1.Acts p1).bind fun (x2:bB) =>
  (cR x2.Part 0 (IntKind.wrap .i64 (a1.Bill.Parts - 1))).bind fun (r3:Bool) =>
  if (!(r3)) = true then
   some (.inr (.inr (15)))
  else
   (cR x2.City 0 (IntKind.wrap .i64 ((a0.Cities.length:Int) - 1))).bind fun (r4:Bool) =>
   if (!(r4)) = true then
    some (.inr (.inr (1)))
   else
    (cR x2.Kind 0 9).bind fun (r5:Bool) =>
    if (!(r5)) = true then
     some (.inr (.inr (1)))
    else
     (s9 a0 a1 x2).bind fun (r6:Bool) =>
     if (!(r6)) = true then
      some (.inr (.inr (14)))
     else
      if (x2.At != (-1)) = true then
       (at? a1.Signs x2.At).bind fun (x7:aO) =>
       (l9 a0 a1 p1 x2 (if x7.Day > a1.Bill.Day then x7.Day else a1.Bill.Day)).bind fun (r18:Unit ⊕ Unit)=>Sum.elim (fun z19 =>
       some (.inl (IntKind.wrap .i64 (p1 + 1)))) (fun z20 =>
       some (.inr (.inr (13)))) r18
      else
       (l9 a0 a1 p1 x2 a1.Bill.Day).bind fun (r21:Unit ⊕ Unit)=>Sum.elim (fun z22 =>
       some (.inl (IntKind.wrap .i64 (p1 + 1)))) (fun z23 =>
       some (.inr (.inr (13)))) r21
 else
  some (.inr (.inl ()))
def oR (a0:aA) (a1:aB) (p1:Int):Option (Unit ⊕ Int) :=
 fY (fun (w:Int)=>iT a0 a1 w) p1
def rB (a0:aA) (a1:aB):Option (Int) :=
 (oR a0 a1 0).bind fun (r25:Unit ⊕ Int)=>Sum.elim (fun z26 =>
 some 0) (fun z27 =>
 some z27) r25
def mB (a0:Int):Option (Bool) :=
 some (a0 != a0)
def iO (a0:Int) (a1:Int):Option (Int) :=
 (mB a0).bind fun (r1:Bool) =>
 (mB a1).bind fun (r2:Bool) =>
 if r1 = true then
  if r2 = true then
   some 0
  else
   some (-1)
 else
  if r2 = true then
   some 1
  else
   if decide (a0 < a1) = true then
    some (-1)
   else
    if decide (a0 > a1) = true then
     some 1
    else
     some 0
def mE (a0:List Int) (p1:Int):Option ((Int) ⊕ (Unit ⊕ Int)) :=
 if decide (p1 < (a0.length:Int)) = true then
  (at? a0 p1).bind fun (x2:Int) =>
  if (x2 != 0) = true then
   some (.inr (.inr (x2)))
  else
   some (.inl (IntKind.wrap .i64 (p1 + 1)))
 else
  some (.inr (.inl ()))
def oQ (a0:List Int) (p1:Int):Option (Unit ⊕ Int) :=
 fY (fun (w:Int)=>mE a0 w) p1
def qW (a0:List Int):Option (Int) :=
 (oQ a0 0).bind fun (r4:Unit ⊕ Int)=>Sum.elim (fun z5 =>
 some 0) (fun z6 =>
 some z6) r4
def gS (a0:aB) (p1:Int):Option ((Int) ⊕ (Unit ⊕ Int)) :=
 if decide (p1 < (a0.Facts.length:Int)) = true then
  (at? a0.Facts p1).bind fun (x2:bG) =>
  (cR x2.Kind 0 4).bind fun (r3:Bool) =>
  if (!(r3)) = true then
   some (.inr (.inr (1)))
  else
   (cR x2.At 0 (IntKind.wrap .i64 ((a0.Signs.length:Int) - 1))).bind fun (r4:Bool) =>
   if (!(r4)) = true then
    some (.inr (.inr (1)))
   else
    (cR x2.N 0 1).bind fun (r5:Bool) =>
    if (!(r5)) = true then
     some (.inr (.inr (1)))
    else
     if (p1 == 0) = true then
      some (.inl (IntKind.wrap .i64 (p1 + 1)))
     else
      (at? a0.Facts (IntKind.wrap .i64 (p1 - 1))).bind fun (x6:bG) =>
      (iO x6.At x2.At).bind fun (r7:Int) =>
      (iO x6.Kind x2.Kind).bind fun (r8:Int) =>
      (qW [r7,r8]).bind fun (r9:Int) =>
      if decide (r9 ≥ 0) = true then
       some (.inr (.inr (5)))
      else
       some (.inl (IntKind.wrap .i64 (p1 + 1)))
 else
  some (.inr (.inl ()))
def nF (a0:aB) (p1:Int):Option (Unit ⊕ Int) :=
 fY (fun (w:Int)=>gS a0 w) p1
def pB (a0:aB):Option (Int) :=
 (nF a0 0).bind fun (r11:Unit ⊕ Int)=>Sum.elim (fun z12 =>
 some 0) (fun z13 =>
 some z13) r11
def gY (a0:aA) (a1:aB) (p2:Int):Option ((Int) ⊕ (Unit ⊕ Int)) :=
 if decide (p2 < (a1.Signs.length:Int)) = true then
  (qN a0 a1 p2).bind fun (r3:Int) =>
  if (r3 != 0) = true then
   some (.inr (.inr (r3)))
  else
   some (.inl (IntKind.wrap .i64 (p2 + 1)))
 else
  some (.inr (.inl ()))
def nD (a0:aA) (a1:aB) (p2:Int):Option (Unit ⊕ Int) :=
 fY (fun (w:Int)=>gY a0 a1 w) p2
def iC (a0:aA) (a1:aB) (p8:Int) (p9:Int):Option ((Int × Int) ⊕ (Unit ⊕ Int)) :=
 if decide (p9 < (a1.Alters.length:Int)) = true then
  (at? a1.Alters p9).bind fun (x10:aZ) =>
  (cR x10.At (IntKind.wrap .i64 (p8 + 1)) (a1.Signs.length:Int)).bind fun (r11:Bool) =>
  if (!(r11)) = true then
   some (.inr (.inr (1)))
  else
   (cR x10.Sum 1 1099511627776).bind fun (r12:Bool) =>
   if (!(r12)) = true then
    some (.inr (.inr (3)))
   else
    some (.inl (x10.At,IntKind.wrap .i64 (p9 + 1)))
 else
  some (.inr (.inl ()))
def nE (a0:aA) (a1:aB) (p8:Int) (p9:Int):Option (Unit ⊕ Int) :=
 fY (fun (w:Int × Int)=>iC a0 a1 w.1 w.2) (p8,p9)
def k8 (a0:aA) (a1:aB):Option (Int) :=
 if decide ((a1.Signs.length:Int) > 40) = true then
  some 6
 else
  if decide ((a1.Alters.length:Int) > 4) = true then
   some 6
  else
   if decide ((a1.Acts.length:Int) > 100) = true then
    some 6
   else
    if decide ((a1.Facts.length:Int) > 200) = true then
     some 6
    else
     (gB a0 a1.Bill).bind fun (r1:Int) =>
     if (r1 != 0) = true then
      some r1
     else
      if ((a1.Signs.length:Int) == 0) = true then
       some 14
      else
       (nD a0 a1 0).bind fun (r5:Unit ⊕ Int)=>Sum.elim (fun z6 =>
       (nE a0 a1 0 0).bind fun (r14:Unit ⊕ Int)=>Sum.elim (fun z15 =>
        (rB a0 a1).bind fun (r17:Int) =>
         if (r17 != 0) = true then
          some r17
         else
          (pB a1).bind fun (r18:Int) =>
          some r18) (fun z16 =>
        some z16) r14) (fun z7 =>
       some z7) r5
def cG (a1:aB) (a2:Int) (r1:Bool) (r4:aB) (p15:Int):Option ((Int) ⊕ (Unit ⊕ Unit)) :=
 if decide (p15 < (r4.Signs.length:Int)) = true then
  (at? r4.Signs p15).bind fun (x16:aO) =>
  if decide (x16.Day > a2) = true then
   some (.inr (.inr (())))
  else
   (at? r4.Signs p15).bind fun (x17:aO) =>
   (at? a1.Signs p15).bind fun (x18:aO) =>
   if (!((x17.Kind == x18.Kind) && ((x17.Part == x18.Part) && ((x17.Who == x18.Who) && ((x17.For == x18.For) && ((x17.To == x18.To) && ((x17.Sum == x18.Sum) && ((x17.Day == x18.Day) && ((x17.City == x18.City) && (x17.Flags == x18.Flags)))))))))) = true then
    some (.inr (.inr (())))
   else
    some (.inl (IntKind.wrap .i64 (p15 + 1)))
 else
  some (.inr (.inl ()))
def gL (a1:aB) (a2:Int) (r1:Bool) (r4:aB) (p15:Int):Option (Unit ⊕ Unit) :=
 fY (fun (w:Int)=>cG a1 a2 r1 r4 w) p15
def cF (a1:aB) (a2:Int) (r1:Bool) (r4:aB) (p22:Int):Option ((Int) ⊕ (Unit ⊕ Unit)) :=
 if decide (p22 < (r4.Acts.length:Int)) = true then
  (at? r4.Acts p22).bind fun (x23:bB) =>
  if decide (x23.Day > a2) = true then
   some (.inr (.inr (())))
  else
   (at? r4.Acts p22).bind fun (x24:bB) =>
   (at? a1.Acts p22).bind fun (x25:bB) =>
   if (!((x24.Kind == x25.Kind) && ((x24.Who == x25.Who) && ((x24.To == x25.To) && ((x24.Part == x25.Part) && ((x24.At == x25.At) && ((x24.Sum == x25.Sum) && ((x24.Day == x25.Day) && ((x24.City == x25.City) && (x24.Form == x25.Form)))))))))) = true then
    some (.inr (.inr (())))
   else
    some (.inl (IntKind.wrap .i64 (p22 + 1)))
 else
  some (.inr (.inl ()))
def gM (a1:aB) (a2:Int) (r1:Bool) (r4:aB) (p22:Int):Option (Unit ⊕ Unit) :=
 fY (fun (w:Int)=>cF a1 a2 r1 r4 w) p22
def dZ (a1:aB) (a2:Int) (r1:Bool) (r4:aB) (p30:Bool):Option (Bool) :=
 if ((r4.Acts.length:Int) == (a1.Acts.length:Int)) = true then
  if r1 = true then
   if p30 = true then
    some (true)
   else
    some (false)
  else
   some (false)
 else
  (at? a1.Acts (r4.Acts.length:Int)).bind fun (x31:bB) =>
  if r1 = true then
   if p30 = true then
    some (decide (x31.Day > a2))
   else
    some (false)
  else
   some (false)
def gD (a0:aA) (a1:aB) (a2:Int) (a3:Int):Option (Bool) :=
 (eW).bind fun (r1:Bool) =>
 (gU a0).bind fun (r2:Bool) =>
 if (!(r2)) = true then
  some r1
 else
  (iA a1).bind fun (r3:Bool) =>
  if (!(r3)) = true then
   some r1
  else
   (hH a1 a2).bind fun (r4:aB) =>
   (hH r4 a3).bind fun (r5:aB) =>
   (hH a1 (if a3 < a2 then a3 else a2)).bind fun (r6:aB) =>
   (fJ r5 r6).bind fun (r7:Bool) =>
   if (!(r7)) = true then
    some false
   else
    (hH a1 a3).bind fun (r8:aB) =>
    (hH r8 a2).bind fun (r9:aB) =>
    (fJ r5 r9).bind fun (r10:Bool) =>
    if (!(r10)) = true then
     some false
    else
     (k8 a0 a1).bind fun (r11:Int) =>
     if (r11 != 0) = true then
      some r1
     else
      if decide (a2 < a1.Bill.Day) = true then
       some r1
      else
       (k8 a0 r4).bind fun (r12:Int) =>
       if (r12 != 0) = true then
        some false
       else
        (hH a1 100000).bind fun (r13:aB) =>
        (fJ r13 a1).bind fun (r14:Bool) =>
        if (!(r14)) = true then
         some false
        else
         (gL a1 a2 r1 r4 0).bind fun (r19:Unit ⊕ Unit)=>Sum.elim (fun z20 =>
         (gM a1 a2 r1 r4 0).bind fun (r26:Unit ⊕ Unit)=>Sum.elim (fun z27 =>
          if ((r4.Signs.length:Int) == (a1.Signs.length:Int)) = true then
            (dZ a1 a2 r1 r4 true).bind fun (r33:Bool) =>
            some r33
           else
            (at? a1.Signs (r4.Signs.length:Int)).bind fun (x29:aO) =>
            (dZ a1 a2 r1 r4 (decide (x29.Day > a2))).bind fun (r34:Bool) =>
            some r34) (fun z28 =>
          some false) r26) (fun z21 =>
         some false) r19
def cE (a1:aB) (p9:Int) (r1:Bool) (r5:Int) (x10:bB) (p11:Bool):Option (Unit ⊕ Unit) :=
 if (r5 == (-1)) = true then
  some (.inr (()))
 else
  if decide (x10.Day < r5) = true then
   some (.inr (()))
  else
   some (.inl ())
def cZ (a1:aB) (r1:Bool) (r5:Int) (p8:Bool) (p9:Int):Option ((Bool × Int) ⊕ (Bool ⊕ Unit)) :=
 if decide (p9 < (a1.Acts.length:Int)) = true then
  (at? a1.Acts p9).bind fun (x10:bB) =>
  if (a1.Bill.Tenor.Kind == 0) = true then
   if (x10.Kind == 2) = true then
    if p8 = true then
     (cE a1 p9 r1 r5 x10 true).bind fun (r12:Unit ⊕ Unit)=>Sum.elim (fun z13 =>
     some (.inl (true,IntKind.wrap .i64 (p9 + 1)))) (fun z14 =>
     some (.inr (.inr (())))) r12
    else
     (cE a1 p9 r1 r5 x10 (x10.Day == r5)).bind fun (r15:Unit ⊕ Unit)=>Sum.elim (fun z16 =>
     some (.inl ((x10.Day == r5),IntKind.wrap .i64 (p9 + 1)))) (fun z17 =>
     some (.inr (.inr (())))) r15
   else
    if (a1.Bill.Tenor.Kind == 1) = true then
     if (x10.Kind == 1) = true then
      if p8 = true then
       (cE a1 p9 r1 r5 x10 true).bind fun (r18:Unit ⊕ Unit)=>Sum.elim (fun z19 =>
       some (.inl (true,IntKind.wrap .i64 (p9 + 1)))) (fun z20 =>
       some (.inr (.inr (())))) r18
      else
       (cE a1 p9 r1 r5 x10 (x10.Day == r5)).bind fun (r21:Unit ⊕ Unit)=>Sum.elim (fun z22 =>
       some (.inl ((x10.Day == r5),IntKind.wrap .i64 (p9 + 1)))) (fun z23 =>
       some (.inr (.inr (())))) r21
     else
      some (.inl (p8,IntKind.wrap .i64 (p9 + 1)))
    else
     some (.inl (p8,IntKind.wrap .i64 (p9 + 1)))
  else
   if (a1.Bill.Tenor.Kind == 1) = true then
    if (x10.Kind == 1) = true then
     if p8 = true then
      (cE a1 p9 r1 r5 x10 true).bind fun (r24:Unit ⊕ Unit)=>Sum.elim (fun z25 =>
      some (.inl (true,IntKind.wrap .i64 (p9 + 1)))) (fun z26 =>
      some (.inr (.inr (())))) r24
     else
      (cE a1 p9 r1 r5 x10 (x10.Day == r5)).bind fun (r27:Unit ⊕ Unit)=>Sum.elim (fun z28 =>
      some (.inl ((x10.Day == r5),IntKind.wrap .i64 (p9 + 1)))) (fun z29 =>
      some (.inr (.inr (())))) r27
    else
     some (.inl (p8,IntKind.wrap .i64 (p9 + 1)))
   else
    some (.inl (p8,IntKind.wrap .i64 (p9 + 1)))
 else
  some (.inr (.inl p8))
def fG (a1:aB) (r1:Bool) (r5:Int) (p8:Bool) (p9:Int):Option (Bool ⊕ Unit) :=
 fY (fun (w:Bool × Int)=>cZ a1 r1 r5 w.1 w.2) (p8,p9)
def dY (a1:aB) (p35:Int) (r1:Bool) (r5:Int) (p38:Bool):Option (Unit ⊕ Unit) :=
 if (r5 == (-1)) = true then
  some (.inr (()))
 else
  (at? a1.Signs p35).bind fun (x39:aO) =>
  if decide (x39.Day < r5) = true then
   some (.inr (()))
  else
   some (.inl ())
def dC (a1:aB) (r1:Bool) (r5:Int) (p34:Bool) (p35:Int):Option ((Bool × Int) ⊕ (Bool ⊕ Unit)) :=
 if decide (p35 < (a1.Signs.length:Int)) = true then
  if (a1.Bill.Tenor.Kind == 1) = true then
   (at? a1.Signs p35).bind fun (x36:aO) =>
   if (x36.Kind == 1) = true then
    if p34 = true then
     (dY a1 p35 r1 r5 true).bind fun (r40:Unit ⊕ Unit)=>Sum.elim (fun z41 =>
     some (.inl (true,IntKind.wrap .i64 (p35 + 1)))) (fun z42 =>
     some (.inr (.inr (())))) r40
    else
     (at? a1.Signs p35).bind fun (x37:aO) =>
     (dY a1 p35 r1 r5 (x37.Day == r5)).bind fun (r43:Unit ⊕ Unit)=>Sum.elim (fun z44 =>
     some (.inl ((x37.Day == r5),IntKind.wrap .i64 (p35 + 1)))) (fun z45 =>
     some (.inr (.inr (())))) r43
   else
    some (.inl (p34,IntKind.wrap .i64 (p35 + 1)))
  else
   some (.inl (p34,IntKind.wrap .i64 (p35 + 1)))
 else
  some (.inr (.inl p34))
def fH (a1:aB) (r1:Bool) (r5:Int) (p34:Bool) (p35:Int):Option (Bool ⊕ Unit) :=
 fY (fun (w:Bool × Int)=>dC a1 r1 r5 w.1 w.2) (p34,p35)
def dL (a1:aB) (r1:Bool) (r5:Int):Option (Bool) :=
 (fG a1 r1 r5 (r5 == (-1)) 0).bind fun (r31:Bool ⊕ Unit)=>Sum.elim (fun z32 =>
 (fH a1 r1 r5 z32 0).bind fun (r47:Bool ⊕ Unit)=>Sum.elim (fun z48 =>
  if r1 = true then
    some (z48)
   else
    some (false)) (fun z49 =>
  some (false)) r47) (fun z33 =>
 some (false)) r31
def gC (a0:aA) (a1:aB) (a2:Int):Option (Bool) :=
 (eW).bind fun (r1:Bool) =>
 (gU a0).bind fun (r2:Bool) =>
 if (!(r2)) = true then
  some r1
 else
  (iA a1).bind fun (r3:Bool) =>
  if (!(r3)) = true then
   some r1
  else
   (k8 a0 a1).bind fun (r4:Int) =>
   if (r4 != 0) = true then
    some r1
   else
    (j7 a1).bind fun (r5:Int) =>
    (hH a1 a2).bind fun (r6:aB) =>
    (j7 r6).bind fun (r7:Int) =>
    if (r5 == (-1)) = true then
     if (r7 != (-1)) = true then
      some false
     else
      (dL a1 r1 r5).bind fun (r51:Bool) =>
      some r51
    else
     if decide (r5 > a2) = true then
      if (r7 != (-1)) = true then
       some false
      else
       (dL a1 r1 r5).bind fun (r52:Bool) =>
       some r52
     else
      if (r7 != r5) = true then
       some false
      else
       (dL a1 r1 r5).bind fun (r53:Bool) =>
       some r53
end
end Go.Proofs.Ytfhebiceipgdmaa
