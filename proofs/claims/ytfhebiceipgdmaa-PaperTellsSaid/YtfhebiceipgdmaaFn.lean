/- What the functions compute, as plain definitions. Printed by a program. -/
import Derived.Test.YtfhebiceipgdmaaTab
set_option linter.unusedVariables false
set_option linter.unusedSimpArgs false
namespace Go.Proofs.Ytfhebiceipgdmaa
noncomputable section
open Vm
open Go.RowKit
def nL:Option (aA × aB) :=
 some ((aA.mk [(⟨#[102,114,97,110,99]⟩ : ByteArray)] [(bL.mk (⟨#[76,121,111,110]⟩ : ByteArray) 0 0 [] [] [])] [(bO.mk 0)] [(bU.mk (⟨#[65]⟩ : ByteArray) 0 0),(bU.mk (⟨#[66]⟩ : ByteArray) 0 0),(bU.mk (⟨#[67]⟩ : ByteArray) 0 0)] [(bD.mk (⟨#[103,101,110,101,118,97]⟩ : ByteArray) false [] [])] [] [] []),(aB.mk (bF.mk 0 1 2 500 0 (bR.mk 0 0 0) 10 0 0 (-1) 0 0 2) [(aX.mk 0 0 0 (-1) (-1) 0 10 0 0),(aX.mk 2 1 2 (-1) 0 0 11 0 0),(aX.mk 1 0 1 (-1) (-1) 500 12 0 0)] [] [] []))
def eU (a0:List aX):Option ((List aX)):=if a0.length * 72 ≤ 140737488355328 then some a0 else none
def eA (a0:List bE):Option ((List bE)):=if a0.length * 16 ≤ 140737488355328 then some a0 else none
def fJ (a0:List bP):Option ((List bP)):=if a0.length * 72 ≤ 140737488355328 then some a0 else none
def eT (a0:List bS):Option ((List bS)):=if a0.length * 24 ≤ 140737488355328 then some a0 else none
def jH (a0:aA) (p1:Int) (p2:List ByteArray):Option ((Int × (List ByteArray)) ⊕ ((List ByteArray))) :=
 if decide (p1 < (a0.Cities.length:Int)) = true then
  (at? a0.Cities p1).bind fun (x3:bL) =>
  if (p2.length + 1) * 16 ≤ 140737488355328 then
   some (.inl (IntKind.wrap .i64 (p1 + 1),p2 ++ [x3.Name]))
  else none
 else
  some (.inr (p2))
def uK (a0:aA) (p1:Int) (p2:List ByteArray):Option ((List ByteArray)) :=
 fA (fun (w:Int × (List ByteArray))=>jH a0 w.1 w.2) (p1,p2)
def i5 (a0:aA) (r5:(List ByteArray)) (p6:Int) (p7:List ByteArray):Option ((Int × (List ByteArray)) ⊕ ((List ByteArray))) :=
 if decide (p6 < (a0.Firms.length:Int)) = true then
  (at? a0.Firms p6).bind fun (x8:bU) =>
  if (p7.length + 1) * 16 ≤ 140737488355328 then
   some (.inl (IntKind.wrap .i64 (p6 + 1),p7 ++ [x8.Name]))
  else none
 else
  some (.inr (p7))
def uI (a0:aA) (r5:(List ByteArray)) (p6:Int) (p7:List ByteArray):Option ((List ByteArray)) :=
 fA (fun (w:Int × (List ByteArray))=>i5 a0 r5 w.1 w.2) (p6,p7)
def jY (a0:aA) (r10:(List ByteArray)) (r5:(List ByteArray)) (p11:Int) (p12:List ByteArray):Option ((Int × (List ByteArray)) ⊕ ((List ByteArray))) :=
 if decide (p11 < (a0.Orders.length:Int)) = true then
  (at? a0.Orders p11).bind fun (x13:bD) =>
  if (p12.length + 1) * 16 ≤ 140737488355328 then
   some (.inl (IntKind.wrap .i64 (p11 + 1),p12 ++ [x13.Name]))
  else none
 else
  some (.inr (p12))
def uD (a0:aA) (r10:(List ByteArray)) (r5:(List ByteArray)) (p11:Int) (p12:List ByteArray):Option ((List ByteArray)) :=
 fA (fun (w:Int × (List ByteArray))=>jY a0 r10 r5 w.1 w.2) (p11,p12)
def sQ (a0:aA):Option ((List ByteArray) × (List ByteArray) × (List ByteArray)) :=
 (uK a0 0 []).bind fun (r5:(List ByteArray)) =>
 (uI a0 r5 0 []).bind fun (r10:(List ByteArray)) =>
 (uD a0 r10 r5 0 []).bind fun (r15:(List ByteArray)) =>
 some (r5,r10,r15)
def gK (a0:ByteArray) (p1:Int) (x2:Int) (p3:Bool):Option (Unit ⊕ Unit) :=
 if (!(p3)) = true then
  if (p1 == 0) = true then
   some (.inr (()))
  else
   if (x2 != 95) = true then
    if decide (x2 < 48) = true then
     some (.inr (()))
    else
     if decide (x2 > 57) = true then
      some (.inr (()))
     else
      some (.inl ())
   else
    some (.inl ())
 else
  some (.inl ())
def iA (a0:ByteArray) (p1:Int):Option ((Int) ⊕ (Unit ⊕ Unit)) :=
 if decide (p1 < ((kF a0).length:Int)) = true then
  (at? (kF a0) p1).bind fun (x2:Int) =>
  if decide (x2 ≥ 97) = true then
   if decide (x2 ≤ 122) = true then
    (gK a0 p1 x2 true).bind fun (r4:Unit ⊕ Unit)=>Sum.elim (fun z5 =>
    some (.inl (IntKind.wrap .i64 (p1 + 1)))) (fun z6 =>
    some (.inr (.inr (())))) r4
   else
    if decide (x2 ≥ 65) = true then
     (gK a0 p1 x2 (decide (x2 ≤ 90))).bind fun (r7:Unit ⊕ Unit)=>Sum.elim (fun z8 =>
     some (.inl (IntKind.wrap .i64 (p1 + 1)))) (fun z9 =>
     some (.inr (.inr (())))) r7
    else
     (gK a0 p1 x2 false).bind fun (r10:Unit ⊕ Unit)=>Sum.elim (fun z11 =>
     some (.inl (IntKind.wrap .i64 (p1 + 1)))) (fun z12 =>
     some (.inr (.inr (())))) r10
  else
   if decide (x2 ≥ 65) = true then
    (gK a0 p1 x2 (decide (x2 ≤ 90))).bind fun (r13:Unit ⊕ Unit)=>Sum.elim (fun z14 =>
    some (.inl (IntKind.wrap .i64 (p1 + 1)))) (fun z15 =>
    some (.inr (.inr (())))) r13
   else
    (gK a0 p1 x2 false).bind fun (r16:Unit ⊕ Unit)=>Sum.elim (fun z17 =>
    some (.inl (IntKind.wrap .i64 (p1 + 1)))) (fun z18 =>
    some (.inr (.inr (())))) r16
 else
  some (.inr (.inl ()))
def sG (a0:ByteArray) (p1:Int):Option (Unit ⊕ Unit) :=
 fA (fun (w:Int)=>iA a0 w) p1
def qN (a0:ByteArray):Option (Bool) :=
 if (a0.toList == ByteArray.empty.toList) = true then
  some false
 else
  if decide ((a0.size:Int) > 20) = true then
   some false
  else
   (sG a0 0).bind fun (r19:Unit ⊕ Unit)=>Sum.elim (fun z20 =>
   some true) (fun z21 =>
   some false) r19
def cT (a0:List ByteArray) (a1:ByteArray) (p1:Int):Option ((Int) ⊕ (Unit ⊕ Int)) :=
 if decide (p1 < (a0.length:Int)) = true then
  (at? a0 p1).bind fun (x2:ByteArray) =>
  if (a1.toList == x2.toList) = true then
   some (.inr (.inr (p1)))
  else
   some (.inl (IntKind.wrap .i64 (p1 + 1)))
 else
  some (.inr (.inl ()))
def gJ (a0:List ByteArray) (a1:ByteArray) (p1:Int):Option (Unit ⊕ Int) :=
 fA (fun (w:Int)=>cT a0 a1 w) p1
def eR (a0:List ByteArray) (a1:ByteArray):Option (Int) :=
 (gJ a0 a1 0).bind fun (r4:Unit ⊕ Int)=>Sum.elim (fun z5 =>
 some (-1)) (fun z6 =>
 some z6) r4
def dT (a0:List ByteArray) (a1:ByteArray):Option (Bool) :=
 (eR a0 a1).bind fun (r1:Int) =>
 some (decide (r1 ≥ 0))
def lT (a0:List ByteArray) (a1:Int):Option (Int) :=
 (at? a0 a1).bind fun (x1:ByteArray) =>
 (qN x1).bind fun (r2:Bool) =>
 if (!(r2)) = true then
  some 2
 else
  if kM a0.length 0 a1 then
   (at? a0 a1).bind fun (x3:ByteArray) =>
   (dT (dX a0 0 a1) x3).bind fun (r4:Bool) =>
   if r4 = true then
    some 5
   else
    some 0
  else none
def rL (a0:Int):Option (Bool) :=
 some true
def mV (a0:List ByteArray) (p1:Int):Option ((Int) ⊕ (Unit ⊕ Int)) :=
 if decide (p1 < (a0.length:Int)) = true then
  (lT a0 p1).bind fun (r2:Int) =>
  if (r2 != 0) = true then
   some (.inr (.inr (r2)))
  else
   (rL p1).bind fun (r3:Bool) =>
   if (!(r3)) = true then
    some (.inr (.inr (1)))
   else
    some (.inl (IntKind.wrap .i64 (p1 + 1)))
 else
  some (.inr (.inl ()))
def vQ (a0:List ByteArray) (p1:Int):Option (Unit ⊕ Int) :=
 fA (fun (w:Int)=>mV a0 w) p1
def pF (a0:List ByteArray) (a1:Int):Option (Int) :=
 if decide ((a0.length:Int) > a1) = true then
  some 6
 else
  (vQ a0 0).bind fun (r5:Unit ⊕ Int)=>Sum.elim (fun z6 =>
  some 0) (fun z7 =>
  some z7) r5
def gN (a0:Int) (a1:Int):Option (Bool) :=
 if decide (a0 ≥ 0) = true then
  some (decide (a0 < a1))
 else
  some false
def iE (a0:List Int) (a1:Int) (a2:Int) (p1:Int):Option ((Int) ⊕ (Unit ⊕ Unit)) :=
 if decide (p1 < (a0.length:Int)) = true then
  (at? a0 p1).bind fun (x2:Int) =>
  if decide (x2 < a1) = true then
   some (.inr (.inr (())))
  else
   if decide (x2 > a2) = true then
    some (.inr (.inr (())))
   else
    if decide (p1 > 0) = true then
     (at? a0 (IntKind.wrap .i64 (p1 - 1))).bind fun (x3:Int) =>
     if decide (x2 ≤ x3) = true then
      some (.inr (.inr (())))
     else
      some (.inl (IntKind.wrap .i64 (p1 + 1)))
    else
     some (.inl (IntKind.wrap .i64 (p1 + 1)))
 else
  some (.inr (.inl ()))
def sR (a0:List Int) (a1:Int) (a2:Int) (p1:Int):Option (Unit ⊕ Unit) :=
 fA (fun (w:Int)=>iE a0 a1 a2 w) p1
def iV (a0:List Int) (a1:Int) (a2:Int):Option (Bool) :=
 (sR a0 a1 a2 0).bind fun (r4:Unit ⊕ Unit)=>Sum.elim (fun z5 =>
 some true) (fun z6 =>
 some false) r4
def lB (a0:aA) (a1:bL) (p1:Int):Option ((Int) ⊕ (Unit ⊕ Unit)) :=
 if decide (p1 < (a1.Feasts.length:Int)) = true then
  (at? a1.Feasts p1).bind fun (x2:Int) =>
  if decide ((x2.tmod 100) < 1) = true then
   some (.inr (.inr (())))
  else
   if decide ((x2.tmod 100) > 31) = true then
    some (.inr (.inr (())))
   else
    some (.inl (IntKind.wrap .i64 (p1 + 1)))
 else
  some (.inr (.inl ()))
def wE (a0:aA) (a1:bL) (p1:Int):Option (Unit ⊕ Unit) :=
 fA (fun (w:Int)=>lB a0 a1 w) p1
def uX (a0:aA) (a1:bL):Option (Bool) :=
 (wE a0 a1 0).bind fun (r3:Unit ⊕ Unit)=>Sum.elim (fun z4 =>
 if decide ((a1.Feasts.length:Int) > 60) = true then
   some false
  else
   if decide ((a1.Shut.length:Int) > 200) = true then
    some false
   else
    (gN a1.Order (a0.Orders.length:Int)).bind fun (r6:Bool) =>
    if (!(r6)) = true then
     some false
    else
     (gN a1.Currency (a0.Currencies.length:Int)).bind fun (r7:Bool) =>
     if (!(r7)) = true then
      some false
     else
      (iV a1.Rest 0 6).bind fun (r8:Bool) =>
      if r8 = true then
       (iV a1.Feasts 101 1231).bind fun (r9:Bool) =>
       if r9 = true then
        (iV a1.Shut 0 100000).bind fun (r10:Bool) =>
        some r10
       else
        some false
      else
       some false) (fun z5 =>
 some false) r3
def mO (a0:Int) (a1:aA):Option (Bool) :=
 (at? a1.Cities a0).bind fun (x1:bL) =>
 (uX a1 x1).bind fun (r2:Bool) =>
 some r2
def mX (a0:List ByteArray) (a2:aA) (p1:Int):Option ((Int) ⊕ (Unit ⊕ Int)) :=
 if decide (p1 < (a0.length:Int)) = true then
  (lT a0 p1).bind fun (r2:Int) =>
  if (r2 != 0) = true then
   some (.inr (.inr (r2)))
  else
   (mO p1 a2).bind fun (r3:Bool) =>
   if (!(r3)) = true then
    some (.inr (.inr (1)))
   else
    some (.inl (IntKind.wrap .i64 (p1 + 1)))
 else
  some (.inr (.inl ()))
def vR (a0:List ByteArray) (a2:aA) (p1:Int):Option (Unit ⊕ Int) :=
 fA (fun (w:Int)=>mX a0 a2 w) p1
def o4 (a0:List ByteArray) (a1:Int) (a2:aA):Option (Int) :=
 if decide ((a0.length:Int) > a1) = true then
  some 6
 else
  (vR a0 a2 0).bind fun (r5:Unit ⊕ Int)=>Sum.elim (fun z6 =>
  some 0) (fun z7 =>
  some z7) r5
def mC (a0:Int) (a1:aA):Option (Bool) :=
 (at? a1.Firms a0).bind fun (x1:bU) =>
 (gN x1.City (a1.Cities.length:Int)).bind fun (r2:Bool) =>
 if r2 = true then
  (at? a1.Firms a0).bind fun (x3:bU) =>
  (gN x3.Group (a1.Groups.length:Int)).bind fun (r4:Bool) =>
  some r4
 else
  some false
def mZ (a0:List ByteArray) (a2:aA) (p1:Int):Option ((Int) ⊕ (Unit ⊕ Int)) :=
 if decide (p1 < (a0.length:Int)) = true then
  (lT a0 p1).bind fun (r2:Int) =>
  if (r2 != 0) = true then
   some (.inr (.inr (r2)))
  else
   (mC p1 a2).bind fun (r3:Bool) =>
   if (!(r3)) = true then
    some (.inr (.inr (1)))
   else
    some (.inl (IntKind.wrap .i64 (p1 + 1)))
 else
  some (.inr (.inl ()))
def vW (a0:List ByteArray) (a2:aA) (p1:Int):Option (Unit ⊕ Int) :=
 fA (fun (w:Int)=>mZ a0 a2 w) p1
def pG (a0:List ByteArray) (a1:Int) (a2:aA):Option (Int) :=
 if decide ((a0.length:Int) > a1) = true then
  some 6
 else
  (vW a0 a2 0).bind fun (r5:Unit ⊕ Int)=>Sum.elim (fun z6 =>
  some 0) (fun z7 =>
  some z7) r5
def jZ (a0:bD) (p1:Int) (p2:List Int):Option ((Int × (List Int)) ⊕ (((List Int)) ⊕ Unit)) :=
 if decide (p1 < (a0.Choices.length:Int)) = true then
  (at? a0.Choices p1).bind fun (x3:bH) =>
  if (p2.length + 1) * 8 ≤ 140737488355328 then
   (gN x3.By 5).bind fun (r4:Bool) =>
   if (!(r4)) = true then
    some (.inr (.inr (())))
   else
    some (.inl (IntKind.wrap .i64 (p1 + 1),p2 ++ [x3.Ask]))
  else none
 else
  some (.inr (.inl p2))
def uC (a0:bD) (p1:Int) (p2:List Int):Option (((List Int)) ⊕ Unit) :=
 fA (fun (w:Int × (List Int))=>jZ a0 w.1 w.2) (p1,p2)
def jX (a0:bD) (z7:(List Int)) (p9:Int) (p10:List Int):Option ((Int × (List Int)) ⊕ ((List Int))) :=
 if decide (p9 < (a0.Rules.length:Int)) = true then
  (at? a0.Rules p9).bind fun (x11:bW) =>
  if (p10.length + 1) * 8 ≤ 140737488355328 then
   some (.inl (IntKind.wrap .i64 (p9 + 1),p10 ++ [x11.Ask]))
  else none
 else
  some (.inr (p10))
def uE (a0:bD) (z7:(List Int)) (p9:Int) (p10:List Int):Option ((List Int)) :=
 fA (fun (w:Int × (List Int))=>jX a0 z7 w.1 w.2) (p9,p10)
def sD (a0:bD):Option (Bool) :=
 (uC a0 0 []).bind fun (r6:((List Int)) ⊕ Unit)=>Sum.elim (fun z7 =>
 (uE a0 z7 0 []).bind fun (r13:(List Int)) =>
  (iV z7 0 21).bind fun (r14:Bool) =>
  if r14 = true then
   (iV r13 0 21).bind fun (r15:Bool) =>
   some r15
  else
   some false) (fun z8 =>
 some false) r6
def mJ (a0:Int) (a1:aA):Option (Bool) :=
 (at? a1.Orders a0).bind fun (x1:bD) =>
 (sD x1).bind fun (r2:Bool) =>
 some r2
def mW (a0:List ByteArray) (a2:aA) (p1:Int):Option ((Int) ⊕ (Unit ⊕ Int)) :=
 if decide (p1 < (a0.length:Int)) = true then
  (lT a0 p1).bind fun (r2:Int) =>
  if (r2 != 0) = true then
   some (.inr (.inr (r2)))
  else
   (mJ p1 a2).bind fun (r3:Bool) =>
   if (!(r3)) = true then
    some (.inr (.inr (1)))
   else
    some (.inl (IntKind.wrap .i64 (p1 + 1)))
 else
  some (.inr (.inl ()))
def vU (a0:List ByteArray) (a2:aA) (p1:Int):Option (Unit ⊕ Int) :=
 fA (fun (w:Int)=>mW a0 a2 w) p1
def o0 (a0:List ByteArray) (a1:Int) (a2:aA):Option (Int) :=
 if decide ((a0.length:Int) > a1) = true then
  some 6
 else
  (vU a0 a2 0).bind fun (r5:Unit ⊕ Int)=>Sum.elim (fun z6 =>
  some 0) (fun z7 =>
  some z7) r5
def gP (a0:aA) (p1:Int) (x2:bA) (p5:Int):Option ((Int) ⊕ (Unit ⊕ Unit)) :=
 if decide (p5 < ((dX a0.Usances 0 p1).length:Int)) = true then
  (at? (dX a0.Usances 0 p1) p5).bind fun (x6:bA) =>
  if (x6.From == x2.From) = true then
   if (x6.To == x2.To) = true then
    some (.inr (.inr (())))
   else
    some (.inl (IntKind.wrap .i64 (p5 + 1)))
  else
   some (.inl (IntKind.wrap .i64 (p5 + 1)))
 else
  some (.inr (.inl ()))
def qX (a0:aA) (p1:Int) (x2:bA) (p5:Int):Option (Unit ⊕ Unit) :=
 fA (fun (w:Int)=>gP a0 p1 x2 w) p5
def gU (a0:aA) (p1:Int):Option ((Int) ⊕ (Unit ⊕ Int)) :=
 if decide (p1 < (a0.Usances.length:Int)) = true then
  (at? a0.Usances p1).bind fun (x2:bA) =>
  (gN x2.From (a0.Cities.length:Int)).bind fun (r3:Bool) =>
  if (!(r3)) = true then
   some (.inr (.inr (1)))
  else
   (gN x2.To (a0.Cities.length:Int)).bind fun (r4:Bool) =>
   if (!(r4)) = true then
    some (.inr (.inr (1)))
   else
    if decide (x2.Days < 1) = true then
     some (.inr (.inr (1)))
    else
     if decide (x2.Days > 20000) = true then
      some (.inr (.inr (1)))
     else
      if kM a0.Usances.length 0 p1 then
       (qX a0 p1 x2 0).bind fun (r7:Unit ⊕ Unit)=>Sum.elim (fun z8 =>
       some (.inl (IntKind.wrap .i64 (p1 + 1)))) (fun z9 =>
       some (.inr (.inr (5)))) r7
      else none
 else
  some (.inr (.inl ()))
def vO (a0:aA) (p1:Int):Option (Unit ⊕ Int) :=
 fA (fun (w:Int)=>gU a0 w) p1
def pA (a0:aA):Option (Int) :=
 if decide ((a0.Usances.length:Int) > 100) = true then
  some 6
 else
  (vO a0 0).bind fun (r11:Unit ⊕ Int)=>Sum.elim (fun z12 =>
  some 0) (fun z13 =>
  some z13) r11
def lF (a0:aA) (p1:Int):Option ((Int) ⊕ (Unit ⊕ Unit)) :=
 if decide (p1 < (a0.Rates.length:Int)) = true then
  (at? a0.Rates p1).bind fun (x2:bX) =>
  (gN x2.From (a0.Currencies.length:Int)).bind fun (r3:Bool) =>
  if (!(r3)) = true then
   some (.inr (.inr (())))
  else
   (gN x2.To (a0.Currencies.length:Int)).bind fun (r4:Bool) =>
   if (!(r4)) = true then
    some (.inr (.inr (())))
   else
    if (x2.From == x2.To) = true then
     some (.inr (.inr (())))
    else
     (gN (IntKind.wrap .i64 (x2.Num - 1)) 1073741824).bind fun (r5:Bool) =>
     if (!(r5)) = true then
      some (.inr (.inr (())))
     else
      (gN (IntKind.wrap .i64 (x2.Den - 1)) 1073741824).bind fun (r6:Bool) =>
      if (!(r6)) = true then
       some (.inr (.inr (())))
      else
       (gN x2.Since 100001).bind fun (r7:Bool) =>
       if (!(r7)) = true then
        some (.inr (.inr (())))
       else
        some (.inl (IntKind.wrap .i64 (p1 + 1)))
 else
  some (.inr (.inl ()))
def vZ (a0:aA) (p1:Int):Option (Unit ⊕ Unit) :=
 fA (fun (w:Int)=>lF a0 w) p1
def lE (a0:aA) (p11:Int):Option ((Int) ⊕ (Unit ⊕ Unit)) :=
 if decide (p11 < (a0.Halts.length:Int)) = true then
  (at? a0.Halts p11).bind fun (x12:bZ) =>
  (gN x12.Order (a0.Orders.length:Int)).bind fun (r13:Bool) =>
  if (!(r13)) = true then
   some (.inr (.inr (())))
  else
   if decide (x12.From < 0) = true then
    some (.inr (.inr (())))
   else
    if decide (x12.From > x12.To) = true then
     some (.inr (.inr (())))
    else
     if decide (x12.To > 100000) = true then
      some (.inr (.inr (())))
     else
      some (.inl (IntKind.wrap .i64 (p11 + 1)))
 else
  some (.inr (.inl ()))
def vL (a0:aA) (p11:Int):Option (Unit ⊕ Unit) :=
 fA (fun (w:Int)=>lE a0 w) p11
def uS (a0:aA):Option (Int) :=
 if decide ((a0.Rates.length:Int) > 100) = true then
  some 6
 else
  (vZ a0 0).bind fun (r8:Unit ⊕ Unit)=>Sum.elim (fun z9 =>
  if decide ((a0.Halts.length:Int) > 20) = true then
    some 6
   else
    (vL a0 0).bind fun (r14:Unit ⊕ Unit)=>Sum.elim (fun z15 =>
    some 0) (fun z16 =>
    some 1) r14) (fun z10 =>
  some 1) r8
def j7 (a0:aA) (r1:(List ByteArray) × (List ByteArray) × (List ByteArray)) (p4:Int):Option ((Int) ⊕ (Unit ⊕ Unit)) :=
 if decide (p4 < (a0.Groups.length:Int)) = true then
  (at? a0.Groups p4).bind fun (x5:bO) =>
  (gN x5.Grade 10).bind fun (r6:Bool) =>
  if (!(r6)) = true then
   some (.inr (.inr (())))
  else
   some (.inl (IntKind.wrap .i64 (p4 + 1)))
 else
  some (.inr (.inl ()))
def uF (a0:aA) (r1:(List ByteArray) × (List ByteArray) × (List ByteArray)) (p4:Int):Option (Unit ⊕ Unit) :=
 fA (fun (w:Int)=>j7 a0 r1 w) p4
def sM (a0:aA):Option (Int) :=
 (sQ a0).bind fun (r1:(List ByteArray) × (List ByteArray) × (List ByteArray)) =>
 (pF a0.Currencies 8).bind fun (r2:Int) =>
 if (r2 != 0) = true then
  some r2
 else
  (o4 r1.1 40 a0).bind fun (r3:Int) =>
  if (r3 != 0) = true then
   some r3
  else
   if decide ((a0.Groups.length:Int) > 20) = true then
    some 6
   else
    (uF a0 r1 0).bind fun (r7:Unit ⊕ Unit)=>Sum.elim (fun z8 =>
    (pG r1.2.1 200 a0).bind fun (r10:Int) =>
     if (r10 != 0) = true then
      some r10
     else
      (o0 r1.2.2 20 a0).bind fun (r11:Int) =>
      if (r11 != 0) = true then
       some r11
      else
       (pA a0).bind fun (r12:Int) =>
       if (r12 != 0) = true then
        some r12
       else
        (uS a0).bind fun (r13:Int) =>
        some r13) (fun z9 =>
    some 1) r7
def eY (a0:Int) (a1:Int):Option (Bool) :=
 if decide (a0 ≥ 0) = true then
  some (decide (a0 < a1))
 else
  some false
def jK (a0:bF):Option (Unit ⊕ Bool) :=
 if (a0.Tenor.Kind == 3) = true then
  if decide (a0.Tenor.N ≥ a0.Day) = true then
   if decide (a0.Tenor.N ≤ 100000) = true then
    some (.inr (a0.Tenor.Unit == 0))
   else
    some (.inr (false))
  else
   some (.inr (false))
 else
  some (.inl ())
def iZ (a0:bF):Option (Unit ⊕ Bool) :=
 if (a0.Tenor.Kind == 1) = true then
  if (a0.Tenor.Kind == 1) = true then
   if decide (a0.Tenor.N ≥ 1) = true then
    if decide (a0.Tenor.N ≤ 400) = true then
     if (a0.Tenor.Unit == 0) = true then
      some (.inr (true))
     else
      some (.inr (a0.Tenor.Unit == 1))
    else
     some (.inr (false))
   else
    some (.inr (false))
  else
   (jK a0).bind fun (r2:Unit ⊕ Bool)=>Sum.elim (fun z3 =>
   some (.inl ())) (fun z4 =>
   some (.inr (z4))) r2
 else
  if (a0.Tenor.Kind == 2) = true then
   if decide (a0.Tenor.N ≥ 1) = true then
    if decide (a0.Tenor.N ≤ 400) = true then
     if (a0.Tenor.Unit == 0) = true then
      some (.inr (true))
     else
      some (.inr (a0.Tenor.Unit == 1))
    else
     some (.inr (false))
   else
    some (.inr (false))
  else
   (jK a0).bind fun (r5:Unit ⊕ Bool)=>Sum.elim (fun z6 =>
   some (.inl ())) (fun z7 =>
   some (.inr (z7))) r5
def jT (a0:bF):Option (Bool) :=
 if (a0.Tenor.Kind == 0) = true then
  if (a0.Tenor.Kind == 0) = true then
   if (a0.Tenor.N == 0) = true then
    some (a0.Tenor.Unit == 0)
   else
    some false
  else
   (iZ a0).bind fun (r9:Unit ⊕ Bool)=>Sum.elim (fun z10 =>
   some false) (fun z11 =>
   some z11) r9
 else
  if (a0.Tenor.Kind == 4) = true then
   if (a0.Tenor.N == 0) = true then
    some (a0.Tenor.Unit == 0)
   else
    some false
  else
   (iZ a0).bind fun (r12:Unit ⊕ Bool)=>Sum.elim (fun z13 =>
   some false) (fun z14 =>
   some z14) r12
def iC (a0:aA) (a1:Int) (a2:Int) (p1:Int):Option ((Int) ⊕ (Unit ⊕ Int)) :=
 if decide (p1 < (a0.Usances.length:Int)) = true then
  (at? a0.Usances p1).bind fun (x2:bA) =>
  if (x2.From == a1) = true then
   if (x2.To == a2) = true then
    some (.inr (.inr (x2.Days)))
   else
    some (.inl (IntKind.wrap .i64 (p1 + 1)))
  else
   some (.inl (IntKind.wrap .i64 (p1 + 1)))
 else
  some (.inr (.inl ()))
def sL (a0:aA) (a1:Int) (a2:Int) (p1:Int):Option (Unit ⊕ Int) :=
 fA (fun (w:Int)=>iC a0 a1 a2 w) p1
def qL (a0:aA) (a1:Int) (a2:Int):Option (Int × Int) :=
 (sL a0 a1 a2 0).bind fun (r4:Unit ⊕ Int)=>Sum.elim (fun z5 =>
 some (0,4)) (fun z6 =>
 some (z6,0)) r4
def jM (a0:aA) (a1:bF):Option (Unit ⊕ Unit) :=
 if decide (a1.Flags < 0) = true then
  some (.inr (()))
 else
  if decide (a1.Flags > 7) = true then
   some (.inr (()))
  else
   if ((IntKind.wrap .i64 (BitVec.ofInt (IntKind.bits .i64) a1.Flags &&& BitVec.ofInt (IntKind.bits .i64) 4).toNat) != 0) = true then
    if (a1.Payee == (-1)) = true then
     some (.inr (()))
    else
     (jT a1).bind fun (r11:Bool) =>
     if (!(r11)) = true then
      some (.inr (()))
     else
      some (.inl ())
   else
    (jT a1).bind fun (r12:Bool) =>
    if (!(r12)) = true then
     some (.inr (()))
    else
     some (.inl ())
def jJ (a0:aA) (a1:bF):Option (Unit ⊕ Int) :=
 if decide (a1.Parts < 1) = true then
  some (.inr (15))
 else
  if decide (a1.Parts > 4) = true then
   some (.inr (15))
  else
   (jM a0 a1).bind fun (r13:Unit ⊕ Unit)=>Sum.elim (fun z14 =>
   some (.inl ())) (fun z15 =>
   some (.inr (2))) r13
def jS (a0:aA) (a1:bF):Option (Unit ⊕ Int) :=
 if decide (a1.Sum < 1) = true then
  some (.inr (3))
 else
  if decide (a1.Sum > 1099511627776) = true then
   some (.inr (3))
  else
   if decide (a1.Day < 0) = true then
    some (.inr (3))
   else
    if decide (a1.Day > 100000) = true then
     some (.inr (3))
    else
     if decide (a1.Rate < 0) = true then
      some (.inr (3))
     else
      if decide (a1.Rate > 1000) = true then
       some (.inr (3))
      else
       (jJ a0 a1).bind fun (r17:Unit ⊕ Int)=>Sum.elim (fun z18 =>
       some (.inl ())) (fun z19 =>
       some (.inr (z19))) r17
def dC (a0:aA) (a1:bF) (p7:Bool):Option (Int) :=
 if (!(p7)) = true then
  some (1)
 else
  (eY a1.Currency (a0.Currencies.length:Int)).bind fun (r8:Bool) =>
  if (!(r8)) = true then
   some (1)
  else
   (eY a1.City (a0.Cities.length:Int)).bind fun (r9:Bool) =>
   if (!(r9)) = true then
    some (1)
   else
    (eY a1.Pay (a0.Cities.length:Int)).bind fun (r10:Bool) =>
    if (!(r10)) = true then
     some (1)
    else
     (jS a0 a1).bind fun (r21:Unit ⊕ Int)=>Sum.elim (fun z22 =>
     if (a1.Tenor.Kind == 4) = true then
       (qL a0 a1.City a1.Pay).bind fun (r24:Int × Int) =>
       some (r24.2)
      else
       some (0)) (fun z23 =>
     some (z23)) r21
def hJ (a0:aA) (a1:bF):Option (Int) :=
 (sM a0).bind fun (r1:Int) =>
 if (r1 != 0) = true then
  some r1
 else
  (eY a1.Drawer (a0.Firms.length:Int)).bind fun (r2:Bool) =>
  if r2 = true then
   (eY a1.Drawee (a0.Firms.length:Int)).bind fun (r3:Bool) =>
   if r3 = true then
    if (a1.Payee == (-1)) = true then
     if (a1.Need == (-1)) = true then
      (dC a0 a1 true).bind fun (r26:Int) =>
      some r26
     else
      (eY a1.Need (a0.Firms.length:Int)).bind fun (r4:Bool) =>
      (dC a0 a1 r4).bind fun (r27:Int) =>
      some r27
    else
     (eY a1.Payee (a0.Firms.length:Int)).bind fun (r5:Bool) =>
     if r5 = true then
      if (a1.Need == (-1)) = true then
       (dC a0 a1 true).bind fun (r28:Int) =>
       some r28
      else
       (eY a1.Need (a0.Firms.length:Int)).bind fun (r6:Bool) =>
       (dC a0 a1 r6).bind fun (r29:Int) =>
       some r29
     else
      (dC a0 a1 false).bind fun (r30:Int) =>
      some r30
   else
    (dC a0 a1 false).bind fun (r31:Int) =>
    some r31
  else
   (dC a0 a1 false).bind fun (r32:Int) =>
   some r32
def cU (a0:Int) (a1:Int) (a2:Int):Option (Bool) :=
 if decide (a0 ≥ a1) = true then
  some (decide (a0 ≤ a2))
 else
  some false
def nA (a0:aB) (a1:Int) (a2:Int):Option (Bool) :=
 if (a1 == 0) = true then
  some true
 else
  (at? a0.Signs a1).bind fun (x1:aX) =>
  some (x1.Part == a2)
def fF (a0:List Int) (a1:Int) (p1:Int):Option ((Int) ⊕ (Unit ⊕ Int)) :=
 if decide (p1 < (a0.length:Int)) = true then
  (at? a0 p1).bind fun (x2:Int) =>
  if (a1 == x2) = true then
   some (.inr (.inr (p1)))
  else
   some (.inl (IntKind.wrap .i64 (p1 + 1)))
 else
  some (.inr (.inl ()))
def hH (a0:List Int) (a1:Int) (p1:Int):Option (Unit ⊕ Int) :=
 fA (fun (w:Int)=>fF a0 a1 w) p1
def kZ (a0:List Int) (a1:Int):Option (Int) :=
 (hH a0 a1 0).bind fun (r4:Unit ⊕ Int)=>Sum.elim (fun z5 =>
 some (-1)) (fun z6 =>
 some z6) r4
def fS (a0:List Int) (a1:Int):Option (Bool) :=
 (kZ a0 a1).bind fun (r1:Int) =>
 some (decide (r1 ≥ 0))
def qA (a0:aB) (a1:Int) (a2:List Int):Option (Bool) :=
 (at? a0.Signs a1).bind fun (x1:aX) =>
 (cU x1.For 0 (IntKind.wrap .i64 (a1 - 1))).bind fun (r2:Bool) =>
 if r2 = true then
  (at? a0.Signs a1).bind fun (x3:aX) =>
  (nA a0 x1.For x3.Part).bind fun (r4:Bool) =>
  if r4 = true then
   (at? a0.Signs x1.For).bind fun (x5:aX) =>
   (fS a2 x5.Kind).bind fun (r6:Bool) =>
   some r6
  else
   some false
 else
  some false
def oZ (a0:aA) (a1:aB) (a2:Int) (p2:Bool) (x1:aX) (p4:Bool):Option (Bool) :=
 if (x1.Kind == 0) = true then
  if (x1.Who == a1.Bill.Drawer) = true then
   if (x1.Sum == 0) = true then
    if ((IntKind.wrap .i64 (BitVec.ofInt (IntKind.bits .i64) x1.Flags ||| BitVec.ofInt (IntKind.bits .i64) 1).toNat) == 1) = true then
     if (x1.Part == 0) = true then
      if (x1.Day == a1.Bill.Day) = true then
       some (x1.City == a1.Bill.City)
      else
       some (false)
     else
      some (false)
    else
     some (false)
   else
    some (false)
  else
   some (false)
 else
  if (x1.Kind == 1) = true then
   if (x1.Who == a1.Bill.Drawee) = true then
    some (p4)
   else
    some (false)
  else
   if (x1.Kind == 2) = true then
    (cU x1.To (-1) (IntKind.wrap .i64 ((a0.Firms.length:Int) - 1))).bind fun (r5:Bool) =>
    if r5 = true then
     if (x1.Sum == 0) = true then
      (cU x1.Flags 0 7).bind fun (r6:Bool) =>
      if r6 = true then
       some ((IntKind.wrap .i64 (BitVec.ofInt (IntKind.bits .i64) x1.Flags &&& BitVec.ofInt (IntKind.bits .i64) 6).toNat) != 6)
      else
       some (false)
     else
      some (false)
    else
     some (false)
   else
    if (x1.Kind == 3) = true then
     if p2 = true then
      (qA a1 a2 [0,1,2,4]).bind fun (r7:Bool) =>
      some (r7)
     else
      some (false)
    else
     if (x1.Kind == 4) = true then
      if p4 = true then
       if (x1.Who != a1.Bill.Drawee) = true then
        (qA a1 a2 [0,2]).bind fun (r8:Bool) =>
        some (r8)
       else
        some (false)
      else
       some (false)
     else
      some (false)
def pB (a0:aA) (a1:aB) (a2:Int) (x1:aX) (p2:Bool):Option (Bool) :=
 (cU x1.Sum 1 1099511627776).bind fun (r3:Bool) =>
 if r3 = true then
  (oZ a0 a1 a2 p2 x1 (x1.Flags == 0)).bind fun (r10:Bool) =>
  some (r10)
 else
  (oZ a0 a1 a2 p2 x1 false).bind fun (r11:Bool) =>
  some (r11)
def nF (a0:aA) (a1:aB) (a2:Int) (x1:aX):Option (Bool) :=
 if (x1.Sum == 0) = true then
  (pB a0 a1 a2 x1 (x1.Flags == 0)).bind fun (r13:Bool) =>
  some (r13)
 else
  (pB a0 a1 a2 x1 false).bind fun (r14:Bool) =>
  some (r14)
def pH (a0:aA) (a1:aB) (a2:Int) (x1:aX):Option (Bool) :=
 if (x1.Kind != 3) = true then
  if (x1.Kind != 4) = true then
   if (x1.For != (-1)) = true then
    some (false)
   else
    (nF a0 a1 a2 x1).bind fun (r16:Bool) =>
    some (r16)
  else
   (nF a0 a1 a2 x1).bind fun (r17:Bool) =>
   some (r17)
 else
  (nF a0 a1 a2 x1).bind fun (r18:Bool) =>
  some (r18)
def rQ (a0:aA) (a1:aB) (a2:Int):Option (Bool) :=
 (at? a1.Signs a2).bind fun (x1:aX) =>
 if (!((a2 == 0) == (x1.Kind == 0))) = true then
  some false
 else
  if (x1.Kind != 2) = true then
   if (x1.To != (-1)) = true then
    some false
   else
    (pH a0 a1 a2 x1).bind fun (r20:Bool) =>
    some r20
  else
   (pH a0 a1 a2 x1).bind fun (r21:Bool) =>
   some r21
def k8 (a0:aA) (a1:aB) (a2:Int) (x1:aX) (p5:Int) (p6:Bool) (p7:Int):Option ((Int × Bool × Int) ⊕ (Int × Bool)) :=
 if decide (p7 < ((dX a1.Signs 0 a2).length:Int)) = true then
  (at? (dX a1.Signs 0 a2) p7).bind fun (x8:aX) =>
  if p6 = true then
   some (.inl (x8.Day,true,IntKind.wrap .i64 (p7 + 1)))
  else
   if (x1.Kind == 1) = true then
    if (x8.Kind == 1) = true then
     some (.inl (x8.Day,x8.Part == x1.Part,IntKind.wrap .i64 (p7 + 1)))
    else
     some (.inl (x8.Day,false,IntKind.wrap .i64 (p7 + 1)))
   else
    some (.inl (x8.Day,false,IntKind.wrap .i64 (p7 + 1)))
 else
  some (.inr ((p5,p6)))
def rK (a0:aA) (a1:aB) (a2:Int) (x1:aX) (p5:Int) (p6:Bool) (p7:Int):Option (Int × Bool) :=
 fA (fun (w:Int × Bool × Int)=>k8 a0 a1 a2 x1 w.1 w.2.1 w.2.2) (p5,p6,p7)
def uZ (a0:aA) (a1:aB) (a2:Int):Option (Int) :=
 (at? a1.Signs a2).bind fun (x1:aX) =>
 (cU x1.Part 0 (IntKind.wrap .i64 (a1.Bill.Parts - 1))).bind fun (r2:Bool) =>
 if (!(r2)) = true then
  some 15
 else
  (cU x1.Who 0 (IntKind.wrap .i64 ((a0.Firms.length:Int) - 1))).bind fun (r3:Bool) =>
  if (!(r3)) = true then
   some 1
  else
   (cU x1.City 0 (IntKind.wrap .i64 ((a0.Cities.length:Int) - 1))).bind fun (r4:Bool) =>
   if (!(r4)) = true then
    some 1
   else
    if kM a1.Signs.length 0 a2 then
     (rK a0 a1 a2 x1 a1.Bill.Day false 0).bind fun (r11:Int × Bool) =>
     (cU x1.Day r11.1 100000).bind fun (r12:Bool) =>
     if (!(r12)) = true then
      some 13
     else
      if (a2 == 0) = true then
       if (x1.Day != r11.1) = true then
        some 13
       else
        (rQ a0 a1 a2).bind fun (r13:Bool) =>
        if (!(r13)) = true then
         some 14
        else
         if r11.2 = true then
          some 5
         else
          some 0
      else
       (rQ a0 a1 a2).bind fun (r14:Bool) =>
       if (!(r14)) = true then
        some 14
       else
        if r11.2 = true then
         some 5
        else
         some 0
    else none
def oH (a2:bP) (p3:Bool) (p5:Bool) (r6:Bool):Option (Unit ⊕ Bool) :=
 if (a2.Kind == 6) = true then
  if r6 = true then
   if p5 = true then
    (cU a2.Sum 1 1099511627776).bind fun (r10:Bool) =>
    some (.inr (r10))
   else
    some (.inr (false))
  else
   some (.inr (false))
 else
  if (a2.Kind == 9) = true then
   if (a2.To == (-1)) = true then
    if p5 = true then
     some (.inr (a2.Sum == 0))
    else
     some (.inr (false))
   else
    some (.inr (false))
  else
   some (.inl ())
def oO (a2:bP) (p3:Bool) (p5:Bool) (r6:Bool):Option (Unit ⊕ Bool) :=
 if (a2.Kind == 3) = true then
  if (a2.Kind == 3) = true then
   if r6 = true then
    if (a2.At == (-1)) = true then
     (cU a2.Sum 0 1099511627776).bind fun (r8:Bool) =>
     if r8 = true then
      (cU a2.Form 0 1).bind fun (r9:Bool) =>
      some (.inr (r9))
     else
      some (.inr (false))
    else
     some (.inr (false))
   else
    some (.inr (false))
  else
   (oH a2 p3 p5 r6).bind fun (r12:Unit ⊕ Bool)=>Sum.elim (fun z13 =>
   some (.inl ())) (fun z14 =>
   some (.inr (z14))) r12
 else
  if (a2.Kind == 5) = true then
   if (a2.Kind == 5) = true then
    if r6 = true then
     if (a2.At == (-1)) = true then
      (cU a2.Sum 0 1099511627776).bind fun (r15:Bool) =>
      if r15 = true then
       (cU a2.Form 0 1).bind fun (r16:Bool) =>
       some (.inr (r16))
      else
       some (.inr (false))
     else
      some (.inr (false))
    else
     some (.inr (false))
   else
    (oH a2 p3 p5 r6).bind fun (r17:Unit ⊕ Bool)=>Sum.elim (fun z18 =>
    some (.inl ())) (fun z19 =>
    some (.inr (z19))) r17
  else
   if (a2.Kind == 4) = true then
    if r6 = true then
     if (a2.At == (-1)) = true then
      (cU a2.Sum 0 1099511627776).bind fun (r20:Bool) =>
      if r20 = true then
       (cU a2.Form 0 1).bind fun (r21:Bool) =>
       some (.inr (r21))
      else
       some (.inr (false))
     else
      some (.inr (false))
    else
     some (.inr (false))
   else
    (oH a2 p3 p5 r6).bind fun (r22:Unit ⊕ Bool)=>Sum.elim (fun z23 =>
    some (.inl ())) (fun z24 =>
    some (.inr (z24))) r22
def qM (a2:bP) (p3:Bool):Option (Bool) :=
 if (a2.To == (-1)) = true then
  if p3 = true then
   some (a2.Sum == 0)
  else
   some (false)
 else
  some (false)
def qO (a2:bP) (p3:Bool) (p5:Bool) (r6:Bool):Option (Bool) :=
 if (a2.Kind == 0) = true then
  if (a2.Kind == 0) = true then
   if r6 = true then
    if (a2.At == (-1)) = true then
     some (a2.Sum == 0)
    else
     some (false)
   else
    some (false)
  else
   (oO a2 p3 p5 r6).bind fun (r26:Unit ⊕ Bool)=>Sum.elim (fun z27 =>
   (qM a2 p3).bind fun (r36:Bool) =>
    some (r36)) (fun z28 =>
   some (z28)) r26
 else
  if (a2.Kind == 1) = true then
   if (a2.Kind == 1) = true then
    if r6 = true then
     if (a2.At == (-1)) = true then
      some (a2.Sum == 0)
     else
      some (false)
    else
     some (false)
   else
    (oO a2 p3 p5 r6).bind fun (r29:Unit ⊕ Bool)=>Sum.elim (fun z30 =>
    (qM a2 p3).bind fun (r37:Bool) =>
     some (r37)) (fun z31 =>
    some (z31)) r29
  else
   if (a2.Kind == 2) = true then
    if r6 = true then
     if (a2.At == (-1)) = true then
      some (a2.Sum == 0)
     else
      some (false)
    else
     some (false)
   else
    (oO a2 p3 p5 r6).bind fun (r32:Unit ⊕ Bool)=>Sum.elim (fun z33 =>
    (qM a2 p3).bind fun (r38:Bool) =>
     some (r38)) (fun z34 =>
    some (z34)) r32
def oA (a0:aA) (a2:bP) (p3:Bool) (p5:Bool):Option (Bool) :=
 (cU a2.To 0 (IntKind.wrap .i64 ((a0.Firms.length:Int) - 1))).bind fun (r6:Bool) =>
 (cU a2.Who 0 (IntKind.wrap .i64 ((a0.Firms.length:Int) - 1))).bind fun (r7:Bool) =>
 if (!(r7)) = true then
  some (false)
 else
  if (a2.Kind != 4) = true then
   if (a2.Form != 0) = true then
    some (false)
   else
    (qO a2 p3 p5 r6).bind fun (r40:Bool) =>
    some (r40)
  else
   (qO a2 p3 p5 r6).bind fun (r41:Bool) =>
   some (r41)
def oD (a0:aA) (a1:aB) (a2:bP) (p3:Bool):Option (Bool) :=
 if p3 = true then
  (at? a1.Signs a2.At).bind fun (x4:aX) =>
  (oA a0 a2 p3 (x4.Who == a2.Who)).bind fun (r43:Bool) =>
  some (r43)
 else
  (oA a0 a2 p3 false).bind fun (r44:Bool) =>
  some (r44)
def xI (a0:aA) (a1:aB) (a2:bP):Option (Bool) :=
 (cU a2.At 0 (IntKind.wrap .i64 ((a1.Signs.length:Int) - 1))).bind fun (r1:Bool) =>
 if r1 = true then
  (nA a1 a2.At a2.Part).bind fun (r2:Bool) =>
  (oD a0 a1 a2 r2).bind fun (r46:Bool) =>
  some r46
 else
  (oD a0 a1 a2 false).bind fun (r47:Bool) =>
  some r47
def rJ (a0:aA) (a1:aB) (p1:Int) (x2:bP) (p10:Int):Option (Unit ⊕ Unit) :=
 (cU x2.Day p10 100000).bind fun (r11:Bool) =>
 if (!(r11)) = true then
  some (.inr (()))
 else
  some (.inl ())
def pC (a0:aA) (a1:aB) (p1:Int) (x2:bP) (p8:Int):Option (Unit ⊕ Unit) :=
 if decide (p1 > 0) = true then
  (at? a1.Acts (IntKind.wrap .i64 (p1 - 1))).bind fun (x9:bP) =>
  (rJ a0 a1 p1 x2 (if x9.Day > p8 then x9.Day else p8)).bind fun (r12:Unit ⊕ Unit)=>Sum.elim (fun z13 =>
  some (.inl ())) (fun z14 =>
  some (.inr (()))) r12
 else
  (rJ a0 a1 p1 x2 p8).bind fun (r15:Unit ⊕ Unit)=>Sum.elim (fun z16 =>
  some (.inl ())) (fun z17 =>
  some (.inr (()))) r15
def lA (a0:aA) (a1:aB) (p1:Int):Option ((Int) ⊕ (Unit ⊕ Int)) :=
 if decide (p1 < (a1.Acts.length:Int)) = true then
  (at? a1.Acts p1).bind fun (x2:bP) =>
  (cU x2.Part 0 (IntKind.wrap .i64 (a1.Bill.Parts - 1))).bind fun (r3:Bool) =>
  if (!(r3)) = true then
   some (.inr (.inr (15)))
  else
   (cU x2.City 0 (IntKind.wrap .i64 ((a0.Cities.length:Int) - 1))).bind fun (r4:Bool) =>
   if (!(r4)) = true then
    some (.inr (.inr (1)))
   else
    (cU x2.Kind 0 9).bind fun (r5:Bool) =>
    if (!(r5)) = true then
     some (.inr (.inr (1)))
    else
     (xI a0 a1 x2).bind fun (r6:Bool) =>
     if (!(r6)) = true then
      some (.inr (.inr (14)))
     else
      if (x2.At != (-1)) = true then
       (at? a1.Signs x2.At).bind fun (x7:aX) =>
       (pC a0 a1 p1 x2 (if x7.Day > a1.Bill.Day then x7.Day else a1.Bill.Day)).bind fun (r18:Unit ⊕ Unit)=>Sum.elim (fun z19 =>
       some (.inl (IntKind.wrap .i64 (p1 + 1)))) (fun z20 =>
       some (.inr (.inr (13)))) r18
      else
       (pC a0 a1 p1 x2 a1.Bill.Day).bind fun (r21:Unit ⊕ Unit)=>Sum.elim (fun z22 =>
       some (.inl (IntKind.wrap .i64 (p1 + 1)))) (fun z23 =>
       some (.inr (.inr (13)))) r21
 else
  some (.inr (.inl ()))
def rU (a0:aA) (a1:aB) (p1:Int):Option (Unit ⊕ Int) :=
 fA (fun (w:Int)=>lA a0 a1 w) p1
def vD (a0:aA) (a1:aB):Option (Int) :=
 (rU a0 a1 0).bind fun (r25:Unit ⊕ Int)=>Sum.elim (fun z26 =>
 some 0) (fun z27 =>
 some z27) r25
def o7 (a0:Int):Option (Bool) :=
 some (a0 != a0)
def lH (a0:Int) (a1:Int):Option (Int) :=
 (o7 a0).bind fun (r1:Bool) =>
 (o7 a1).bind fun (r2:Bool) =>
 if r1 = true then
  if r2 = true then
   some 0
  else
   some (-1)
 else
  if r2 = true then
   some 1
  else
   if decide (a0 < a1) = true then
    some (-1)
   else
    if decide (a0 > a1) = true then
     some 1
    else
     some 0
def pE (a0:List Int) (p1:Int):Option ((Int) ⊕ (Unit ⊕ Int)) :=
 if decide (p1 < (a0.length:Int)) = true then
  (at? a0 p1).bind fun (x2:Int) =>
  if (x2 != 0) = true then
   some (.inr (.inr (x2)))
  else
   some (.inl (IntKind.wrap .i64 (p1 + 1)))
 else
  some (.inr (.inl ()))
def rE (a0:List Int) (p1:Int):Option (Unit ⊕ Int) :=
 fA (fun (w:Int)=>pE a0 w) p1
def uW (a0:List Int):Option (Int) :=
 (rE a0 0).bind fun (r4:Unit ⊕ Int)=>Sum.elim (fun z5 =>
 some 0) (fun z6 =>
 some z6) r4
def jN (a0:aB) (p1:Int):Option ((Int) ⊕ (Unit ⊕ Int)) :=
 if decide (p1 < (a0.Facts.length:Int)) = true then
  (at? a0.Facts p1).bind fun (x2:bS) =>
  (cU x2.Kind 0 4).bind fun (r3:Bool) =>
  if (!(r3)) = true then
   some (.inr (.inr (1)))
  else
   (cU x2.At 0 (IntKind.wrap .i64 ((a0.Signs.length:Int) - 1))).bind fun (r4:Bool) =>
   if (!(r4)) = true then
    some (.inr (.inr (1)))
   else
    (cU x2.N 0 1).bind fun (r5:Bool) =>
    if (!(r5)) = true then
     some (.inr (.inr (1)))
    else
     if (p1 == 0) = true then
      some (.inl (IntKind.wrap .i64 (p1 + 1)))
     else
      (at? a0.Facts (IntKind.wrap .i64 (p1 - 1))).bind fun (x6:bS) =>
      (lH x6.At x2.At).bind fun (r7:Int) =>
      (lH x6.Kind x2.Kind).bind fun (r8:Int) =>
      (uW [r7,r8]).bind fun (r9:Int) =>
      if decide (r9 ≥ 0) = true then
       some (.inr (.inr (5)))
      else
       some (.inl (IntKind.wrap .i64 (p1 + 1)))
 else
  some (.inr (.inl ()))
def qF (a0:aB) (p1:Int):Option (Unit ⊕ Int) :=
 fA (fun (w:Int)=>jN a0 w) p1
def sF (a0:aB):Option (Int) :=
 (qF a0 0).bind fun (r11:Unit ⊕ Int)=>Sum.elim (fun z12 =>
 some 0) (fun z13 =>
 some z13) r11
def j0 (a0:aA) (a1:aB) (p2:Int):Option ((Int) ⊕ (Unit ⊕ Int)) :=
 if decide (p2 < (a1.Signs.length:Int)) = true then
  (uZ a0 a1 p2).bind fun (r3:Int) =>
  if (r3 != 0) = true then
   some (.inr (.inr (r3)))
  else
   some (.inl (IntKind.wrap .i64 (p2 + 1)))
 else
  some (.inr (.inl ()))
def qG (a0:aA) (a1:aB) (p2:Int):Option (Unit ⊕ Int) :=
 fA (fun (w:Int)=>j0 a0 a1 w) p2
def jQ (a0:aA) (a1:aB) (p8:Int) (p9:Int):Option ((Int × Int) ⊕ (Unit ⊕ Int)) :=
 if decide (p9 < (a1.Alters.length:Int)) = true then
  (at? a1.Alters p9).bind fun (x10:bE) =>
  (cU x10.At (IntKind.wrap .i64 (p8 + 1)) (a1.Signs.length:Int)).bind fun (r11:Bool) =>
  if (!(r11)) = true then
   some (.inr (.inr (1)))
  else
   (cU x10.Sum 1 1099511627776).bind fun (r12:Bool) =>
   if (!(r12)) = true then
    some (.inr (.inr (3)))
   else
    some (.inl (x10.At,IntKind.wrap .i64 (p9 + 1)))
 else
  some (.inr (.inl ()))
def qH (a0:aA) (a1:aB) (p8:Int) (p9:Int):Option (Unit ⊕ Int) :=
 fA (fun (w:Int × Int)=>jQ a0 a1 w.1 w.2) (p8,p9)
def lP (a0:aA) (a1:aB):Option (Int) :=
 if decide ((a1.Signs.length:Int) > 40) = true then
  some 6
 else
  if decide ((a1.Alters.length:Int) > 4) = true then
   some 6
  else
   if decide ((a1.Acts.length:Int) > 100) = true then
    some 6
   else
    if decide ((a1.Facts.length:Int) > 200) = true then
     some 6
    else
     (hJ a0 a1.Bill).bind fun (r1:Int) =>
     if (r1 != 0) = true then
      some r1
     else
      if ((a1.Signs.length:Int) == 0) = true then
       some 14
      else
       (qG a0 a1 0).bind fun (r5:Unit ⊕ Int)=>Sum.elim (fun z6 =>
       (qH a0 a1 0 0).bind fun (r14:Unit ⊕ Int)=>Sum.elim (fun z15 =>
        (vD a0 a1).bind fun (r17:Int) =>
         if (r17 != 0) = true then
          some r17
         else
          (sF a1).bind fun (r18:Int) =>
          some r18) (fun z16 =>
        some z16) r14) (fun z7 =>
       some z7) r5
def fY (a0:aA) (a1:aB) (a2:aX):Option (aB × Int) :=
 (eU a1.Signs).bind fun (r1:(List aX)) =>
 if (r1.length + 1) * 72 ≤ 140737488355328 then
  (eA a1.Alters).bind fun (r2:(List bE)) =>
  (fJ a1.Acts).bind fun (r3:(List bP)) =>
  (eT a1.Facts).bind fun (r4:(List bS)) =>
  (lP a0 (aB.mk a1.Bill (r1 ++ [a2]) r2 r3 r4)).bind fun (r5:Int) =>
  if (r5 != 0) = true then
   some ((aB.mk (bF.mk 0 0 0 0 0 (bR.mk 0 0 0) 0 0 0 0 0 0 0) [] [] [] []),r5)
  else
   some ((aB.mk a1.Bill (r1 ++ [a2]) r2 r3 r4),0)
 else none
def nE (a0:aB) (a1:Int) (p1:Int) (p2:List Int):Option ((Int × (List Int)) ⊕ ((List Int))) :=
 if decide (p1 < (a0.Signs.length:Int)) = true then
  (nA a0 p1 a1).bind fun (r3:Bool) =>
  if r3 = true then
   if (p2.length + 1) * 8 ≤ 140737488355328 then
    some (.inl (IntKind.wrap .i64 (p1 + 1),p2 ++ [p1]))
   else none
  else
   some (.inl (IntKind.wrap .i64 (p1 + 1),p2))
 else
  some (.inr (p2))
def wG (a0:aB) (a1:Int) (p1:Int) (p2:List Int):Option ((List Int)) :=
 fA (fun (w:Int × (List Int))=>nE a0 a1 w.1 w.2) (p1,p2)
def vE (a0:aB) (a1:Int):Option ((List Int)) :=
 (wG a0 a1 0 []).bind fun (r5:(List Int)) =>
 some r5
def dK (a0:List Int) (a1:List Int) (p1:Int):Option ((Int) ⊕ (Unit ⊕ Unit)) :=
 if decide (p1 < (a0.length:Int)) = true then
  (at? a0 p1).bind fun (x2:Int) =>
  (at? a1 p1).bind fun (x3:Int) =>
  if (x2 != x3) = true then
   some (.inr (.inr (())))
  else
   some (.inl (IntKind.wrap .i64 (p1 + 1)))
 else
  some (.inr (.inl ()))
def kT (a0:List Int) (a1:List Int) (p1:Int):Option (Unit ⊕ Unit) :=
 fA (fun (w:Int)=>dK a0 a1 w) p1
def dJ (a0:List Int) (a1:List Int):Option (Bool) :=
 if ((a0.length:Int) != (a1.length:Int)) = true then
  some false
 else
  (kT a0 a1 0).bind fun (r4:Unit ⊕ Unit)=>Sum.elim (fun z5 =>
  some true) (fun z6 =>
  some false) r4
def gT (a0:aB) (p1:Int) (p2:List Int):Option ((Int × (List Int)) ⊕ ((List Int))) :=
 if decide (p1 < (a0.Signs.length:Int)) = true then
  (at? a0.Signs p1).bind fun (x3:aX) =>
  if (x3.Kind == 1) = true then
   if (p2.length + 1) * 8 ≤ 140737488355328 then
    some (.inl (IntKind.wrap .i64 (p1 + 1),p2 ++ [p1]))
   else none
  else
   some (.inl (IntKind.wrap .i64 (p1 + 1),p2))
 else
  some (.inr (p2))
def nZ (a0:aB) (p1:Int) (p2:List Int):Option ((List Int)) :=
 fA (fun (w:Int × (List Int))=>gT a0 w.1 w.2) (p1,p2)
def l8 (a0:aB):Option ((List Int)) :=
 (nZ a0 0 []).bind fun (r5:(List Int)) =>
 some r5
def jB (a0:aB) (a1:Int) (p1:Int) (p2:Int):Option ((Int × Int) ⊕ (Int)) :=
 if decide (p2 < (a0.Alters.length:Int)) = true then
  (at? a0.Alters p2).bind fun (x3:bE) =>
  if decide (x3.At ≤ a1) = true then
   some (.inl (x3.Sum,IntKind.wrap .i64 (p2 + 1)))
  else
   some (.inl (p1,IntKind.wrap .i64 (p2 + 1)))
 else
  some (.inr (p1))
def qJ (a0:aB) (a1:Int) (p1:Int) (p2:Int):Option (Int) :=
 fA (fun (w:Int × Int)=>jB a0 a1 w.1 w.2) (p1,p2)
def lW (a0:aB) (a1:Int):Option (Int) :=
 (qJ a0 a1 a0.Bill.Sum 0).bind fun (r5:Int) =>
 some r5
def fN:Option (Bool) :=
 (nL).bind fun (r1:aA × aB) =>
 (fY r1.1 r1.2 (aX.mk 2 1 0 (-1) (-1) 0 11 0 0)).bind fun (r2:aB × Int) =>
 (fY r1.1 r1.2 (aX.mk 2 1 0 (-1) (-1) 0 12 0 0)).bind fun (r3:aB × Int) =>
 (fY r1.1 r1.2 (aX.mk 1 0 1 (-1) (-1) 300 20 0 0)).bind fun (r4:aB × Int) =>
 (fY r1.1 r1.2 (aX.mk 1 1 1 (-1) (-1) 300 20 0 0)).bind fun (r5:aB × Int) =>
 (fY r1.1 r1.2 (aX.mk 3 1 0 2 (-1) 0 20 0 0)).bind fun (r6:aB × Int) =>
 (fY r1.1 r1.2 (aX.mk 3 0 0 2 (-1) 0 20 0 0)).bind fun (r7:aB × Int) =>
 if (r2.2 != 13) = true then
  some false
 else
  if (r3.2 != 0) = true then
   some false
  else
   if (r4.2 != 5) = true then
    some false
   else
    if (r5.2 != 0) = true then
     some false
    else
     if (r6.2 != 14) = true then
      some false
     else
      if (r7.2 != 0) = true then
       some false
      else
       if ((r3.1.Signs.length:Int) != 4) = true then
        some false
       else
        (lP r1.1 (aB.mk r1.2.Bill r1.2.Signs [(bE.mk 1 900)] r1.2.Acts r1.2.Facts)).bind fun (r8:Int) =>
        if (r8 == 0) = true then
         (vE (aB.mk r1.2.Bill r1.2.Signs [(bE.mk 1 900)] r1.2.Acts r1.2.Facts) 1).bind fun (r9:(List Int)) =>
         (dJ r9 [0,1]).bind fun (r10:Bool) =>
         if r10 = true then
          (l8 (aB.mk r1.2.Bill r1.2.Signs [(bE.mk 1 900)] r1.2.Acts r1.2.Facts)).bind fun (r11:(List Int)) =>
          (dJ r11 [2]).bind fun (r12:Bool) =>
          if r12 = true then
           (lW (aB.mk r1.2.Bill r1.2.Signs [(bE.mk 1 900)] r1.2.Acts r1.2.Facts) 0).bind fun (r13:Int) =>
           if (r13 == 500) = true then
            (lW (aB.mk r1.2.Bill r1.2.Signs [(bE.mk 1 900)] r1.2.Acts r1.2.Facts) 1).bind fun (r14:Int) =>
            some (r14 == 900)
           else
            some false
          else
           some false
         else
          some false
        else
         some false
def mB (a0:aB):Option (Bool) :=
 if decide ((a0.Signs.length:Int) ≤ 42) = true then
  if decide ((a0.Alters.length:Int) ≤ 6) = true then
   if decide ((a0.Acts.length:Int) ≤ 102) = true then
    some (decide ((a0.Facts.length:Int) ≤ 202))
   else
    some false
  else
   some false
 else
  some false
def iO (a0:Int):Option (Bool) :=
 if decide (97 ≤ a0) = true then
  if decide (a0 ≤ 122) = true then
   some true
  else
   if decide (65 ≤ a0) = true then
    some (decide (a0 ≤ 90))
   else
    some false
 else
  if decide (65 ≤ a0) = true then
   some (decide (a0 ≤ 90))
  else
   some false
def fW (a0:ByteArray) (p1:Int) (p5:Bool):Option (Unit ⊕ Unit) :=
 (sAt a0 p1).bind fun (x6:Int) =>
 (iO x6).bind fun (r7:Bool) =>
 if (!(r7)) = true then
  if (p1 == 0) = true then
   some (.inr (()))
  else
   if (!(p5)) = true then
    some (.inr (()))
   else
    some (.inl ())
 else
  some (.inl ())
def fC (a0:ByteArray) (p1:Int):Option ((Int) ⊕ (Unit ⊕ Unit)) :=
 if decide (p1 < (a0.size:Int)) = true then
  (sAt a0 p1).bind fun (x2:Int) =>
  if (x2 == 95) = true then
   (fW a0 p1 true).bind fun (r8:Unit ⊕ Unit)=>Sum.elim (fun z9 =>
   some (.inl (IntKind.wrap .i64 (p1 + 1)))) (fun z10 =>
   some (.inr (.inr (())))) r8
  else
   (sAt a0 p1).bind fun (x3:Int) =>
   if decide (48 ≤ x3) = true then
    (sAt a0 p1).bind fun (x4:Int) =>
    (fW a0 p1 (decide (x4 ≤ 57))).bind fun (r11:Unit ⊕ Unit)=>Sum.elim (fun z12 =>
    some (.inl (IntKind.wrap .i64 (p1 + 1)))) (fun z13 =>
    some (.inr (.inr (())))) r11
   else
    (fW a0 p1 false).bind fun (r14:Unit ⊕ Unit)=>Sum.elim (fun z15 =>
    some (.inl (IntKind.wrap .i64 (p1 + 1)))) (fun z16 =>
    some (.inr (.inr (())))) r14
 else
  some (.inr (.inl ()))
def nP (a0:ByteArray) (p1:Int):Option (Unit ⊕ Unit) :=
 fA (fun (w:Int)=>fC a0 w) p1
def lG (a0:ByteArray):Option (Bool) :=
 if decide ((a0.size:Int) < 1) = true then
  some false
 else
  if decide ((a0.size:Int) > 20) = true then
   some false
  else
   (nP a0 0).bind fun (r17:Unit ⊕ Unit)=>Sum.elim (fun z18 =>
   some true) (fun z19 =>
   some false) r17
def eD (a0:List ByteArray) (a1:Int) (a2:ByteArray) (p1:Int):Option ((Int) ⊕ (Unit ⊕ Unit)) :=
 if decide (p1 < a1) = true then
  if decide (p1 < (a0.length:Int)) = true then
   (at? a0 p1).bind fun (x2:ByteArray) =>
   if (x2.toList == a2.toList) = true then
    some (.inr (.inr (())))
   else
    some (.inl (IntKind.wrap .i64 (p1 + 1)))
  else
   some (.inr (.inl ()))
 else
  some (.inr (.inl ()))
def mD (a0:List ByteArray) (a1:Int) (a2:ByteArray) (p1:Int):Option (Unit ⊕ Unit) :=
 fA (fun (w:Int)=>eD a0 a1 a2 w) p1
def iJ (a0:List ByteArray) (a1:Int) (a2:ByteArray):Option (Bool) :=
 (mD a0 a1 a2 0).bind fun (r3:Unit ⊕ Unit)=>Sum.elim (fun z4 =>
 some false) (fun z5 =>
 some true) r3
def dF (a0:List ByteArray) (a1:Int):Option (Int) :=
 (at? a0 a1).bind fun (x1:ByteArray) =>
 (lG x1).bind fun (r2:Bool) =>
 if (!(r2)) = true then
  some 2
 else
  (at? a0 a1).bind fun (x3:ByteArray) =>
  (iJ a0 a1 x3).bind fun (r4:Bool) =>
  if r4 = true then
   some 5
  else
   some 0
def a9 (a0:Int) (a1:Int) (a2:Int):Option (Bool) :=
 if decide (a1 ≤ a0) = true then
  some (decide (a0 ≤ a2))
 else
  some false
def eK (a0:List Int) (a1:Int) (a2:Int) (p1:Int):Option ((Int) ⊕ (Unit ⊕ Unit)) :=
 if decide (p1 < (a0.length:Int)) = true then
  (at? a0 p1).bind fun (x2:Int) =>
  (a9 x2 a1 a2).bind fun (r3:Bool) =>
  if (!(r3)) = true then
   some (.inr (.inr (())))
  else
   if decide (p1 > 0) = true then
    (at? a0 (IntKind.wrap .i64 (p1 - 1))).bind fun (x4:Int) =>
    (at? a0 p1).bind fun (x5:Int) =>
    if decide (x4 ≥ x5) = true then
     some (.inr (.inr (())))
    else
     some (.inl (IntKind.wrap .i64 (p1 + 1)))
   else
    some (.inl (IntKind.wrap .i64 (p1 + 1)))
 else
  some (.inr (.inl ()))
def mH (a0:List Int) (a1:Int) (a2:Int) (p1:Int):Option (Unit ⊕ Unit) :=
 fA (fun (w:Int)=>eK a0 a1 a2 w) p1
def fL (a0:List Int) (a1:Int) (a2:Int):Option (Bool) :=
 (mH a0 a1 a2 0).bind fun (r6:Unit ⊕ Unit)=>Sum.elim (fun z7 =>
 some true) (fun z8 =>
 some false) r6
def dE (a1:bL) (p3:Int):Option ((Int) ⊕ (Unit ⊕ Unit)) :=
 if decide (p3 < (a1.Feasts.length:Int)) = true then
  (at? a1.Feasts p3).bind fun (x4:Int) =>
  (a9 (IntKind.wrap .i64 (x4.tdiv 100)) 1 12).bind fun (r5:Bool) =>
  if (!(r5)) = true then
   some (.inr (.inr (())))
  else
   (at? a1.Feasts p3).bind fun (x6:Int) =>
   (a9 (x6.tmod 100) 1 31).bind fun (r7:Bool) =>
   if (!(r7)) = true then
    some (.inr (.inr (())))
   else
    some (.inl (IntKind.wrap .i64 (p3 + 1)))
 else
  some (.inr (.inl ()))
def jE (a1:bL) (p3:Int):Option (Unit ⊕ Unit) :=
 fA (fun (w:Int)=>dE a1 w) p3
def gC (a0:aA) (a1:bL):Option (Bool) :=
 (a9 a1.Order 0 (IntKind.wrap .i64 ((a0.Orders.length:Int) - 1))).bind fun (r1:Bool) =>
 if (!(r1)) = true then
  some false
 else
  (a9 a1.Currency 0 (IntKind.wrap .i64 ((a0.Currencies.length:Int) - 1))).bind fun (r2:Bool) =>
  if (!(r2)) = true then
   some false
  else
   if decide ((a1.Feasts.length:Int) > 60) = true then
    some false
   else
    if decide ((a1.Shut.length:Int) > 200) = true then
     some false
    else
     (jE a1 0).bind fun (r8:Unit ⊕ Unit)=>Sum.elim (fun z9 =>
     (fL a1.Rest 0 6).bind fun (r11:Bool) =>
      if r11 = true then
       (fL a1.Feasts 0 2000).bind fun (r12:Bool) =>
       if r12 = true then
        (fL a1.Shut 0 100000).bind fun (r13:Bool) =>
        some r13
       else
        some false
      else
       some false) (fun z10 =>
     some false) r8
def eL (a0:aA) (p1:Int):Option ((Int) ⊕ (Unit ⊕ Int)) :=
 if decide (p1 < (a0.Currencies.length:Int)) = true then
  (dF a0.Currencies p1).bind fun (r2:Int) =>
  if (r2 != 0) = true then
   some (.inr (.inr (r2)))
  else
   some (.inl (IntKind.wrap .i64 (p1 + 1)))
 else
  some (.inr (.inl ()))
def mM (a0:aA) (p1:Int):Option (Unit ⊕ Int) :=
 fA (fun (w:Int)=>eL a0 w) p1
def eG (a0:aA) (p7:Int) (p8:List ByteArray):Option ((Int × (List ByteArray)) ⊕ (Unit ⊕ Int)) :=
 if decide (p7 < (a0.Cities.length:Int)) = true then
  (at? a0.Cities p7).bind fun (x9:bL) =>
  if (p8.length + 1) * 16 ≤ 140737488355328 then
   (dF (p8 ++ [x9.Name]) p7).bind fun (r10:Int) =>
   if (r10 != 0) = true then
    some (.inr (.inr (r10)))
   else
    (at? a0.Cities p7).bind fun (x11:bL) =>
    (gC a0 x11).bind fun (r12:Bool) =>
    if (!(r12)) = true then
     some (.inr (.inr (1)))
    else
     some (.inl (IntKind.wrap .i64 (p7 + 1),p8 ++ [x9.Name]))
  else none
 else
  some (.inr (.inl ()))
def mL (a0:aA) (p7:Int) (p8:List ByteArray):Option (Unit ⊕ Int) :=
 fA (fun (w:Int × (List ByteArray))=>eG a0 w.1 w.2) (p7,p8)
def iP (a0:aA):Option (Int) :=
 if decide ((a0.Currencies.length:Int) > 8) = true then
  some 6
 else
  (mM a0 0).bind fun (r4:Unit ⊕ Int)=>Sum.elim (fun z5 =>
  if decide ((a0.Cities.length:Int) > 40) = true then
    some 6
   else
    (mL a0 0 []).bind fun (r14:Unit ⊕ Int)=>Sum.elim (fun z15 =>
    some 0) (fun z16 =>
    some z16) r14) (fun z6 =>
  some z6) r4
def eO (a0:aA) (p1:Int):Option ((Int) ⊕ (Unit ⊕ Unit)) :=
 if decide (p1 < (a0.Groups.length:Int)) = true then
  (at? a0.Groups p1).bind fun (x2:bO) =>
  (a9 x2.Grade 0 9).bind fun (r3:Bool) =>
  if (!(r3)) = true then
   some (.inr (.inr (())))
  else
   some (.inl (IntKind.wrap .i64 (p1 + 1)))
 else
  some (.inr (.inl ()))
def m3 (a0:aA) (p1:Int):Option (Unit ⊕ Unit) :=
 fA (fun (w:Int)=>eO a0 w) p1
def eP (a0:aA) (p7:Int) (p8:List ByteArray):Option ((Int × (List ByteArray)) ⊕ (Unit ⊕ Int)) :=
 if decide (p7 < (a0.Firms.length:Int)) = true then
  (at? a0.Firms p7).bind fun (x9:bU) =>
  if (p8.length + 1) * 16 ≤ 140737488355328 then
   (dF (p8 ++ [x9.Name]) p7).bind fun (r10:Int) =>
   if (r10 != 0) = true then
    some (.inr (.inr (r10)))
   else
    (at? a0.Firms p7).bind fun (x11:bU) =>
    (a9 x11.City 0 (IntKind.wrap .i64 ((a0.Cities.length:Int) - 1))).bind fun (r12:Bool) =>
    if (!(r12)) = true then
     some (.inr (.inr (1)))
    else
     (at? a0.Firms p7).bind fun (x13:bU) =>
     (a9 x13.Group 0 (IntKind.wrap .i64 ((a0.Groups.length:Int) - 1))).bind fun (r14:Bool) =>
     if (!(r14)) = true then
      some (.inr (.inr (1)))
     else
      some (.inl (IntKind.wrap .i64 (p7 + 1),p8 ++ [x9.Name]))
  else none
 else
  some (.inr (.inl ()))
def m7 (a0:aA) (p7:Int) (p8:List ByteArray):Option (Unit ⊕ Int) :=
 fA (fun (w:Int × (List ByteArray))=>eP a0 w.1 w.2) (p7,p8)
def kA (a0:aA):Option (Int) :=
 if decide ((a0.Groups.length:Int) > 20) = true then
  some 6
 else
  (m3 a0 0).bind fun (r4:Unit ⊕ Unit)=>Sum.elim (fun z5 =>
  if decide ((a0.Firms.length:Int) > 200) = true then
    some 6
   else
    (m7 a0 0 []).bind fun (r16:Unit ⊕ Int)=>Sum.elim (fun z17 =>
    some 0) (fun z18 =>
    some z18) r16) (fun z6 =>
  some 1) r4
def dA (a0:bD) (p1:Int):Option ((Int) ⊕ (Unit ⊕ Unit)) :=
 if decide (p1 < (a0.Choices.length:Int)) = true then
  (at? a0.Choices p1).bind fun (x2:bH) =>
  (a9 x2.Ask 0 21).bind fun (r3:Bool) =>
  if (!(r3)) = true then
   some (.inr (.inr (())))
  else
   (at? a0.Choices p1).bind fun (x4:bH) =>
   (a9 x4.By 0 4).bind fun (r5:Bool) =>
   if (!(r5)) = true then
    some (.inr (.inr (())))
   else
    if decide (p1 > 0) = true then
     (at? a0.Choices (IntKind.wrap .i64 (p1 - 1))).bind fun (x6:bH) =>
     (at? a0.Choices p1).bind fun (x7:bH) =>
     if decide (x6.Ask ≥ x7.Ask) = true then
      some (.inr (.inr (())))
     else
      some (.inl (IntKind.wrap .i64 (p1 + 1)))
    else
     some (.inl (IntKind.wrap .i64 (p1 + 1)))
 else
  some (.inr (.inl ()))
def iR (a0:bD) (p1:Int):Option (Unit ⊕ Unit) :=
 fA (fun (w:Int)=>dA a0 w) p1
def cZ (a0:bD) (p11:Int):Option ((Int) ⊕ (Unit ⊕ Unit)) :=
 if decide (p11 < (a0.Rules.length:Int)) = true then
  (at? a0.Rules p11).bind fun (x12:bW) =>
  (a9 x12.Ask 0 21).bind fun (r13:Bool) =>
  if (!(r13)) = true then
   some (.inr (.inr (())))
  else
   if decide (p11 > 0) = true then
    (at? a0.Rules (IntKind.wrap .i64 (p11 - 1))).bind fun (x14:bW) =>
    (at? a0.Rules p11).bind fun (x15:bW) =>
    if decide (x14.Ask ≥ x15.Ask) = true then
     some (.inr (.inr (())))
    else
     some (.inl (IntKind.wrap .i64 (p11 + 1)))
   else
    some (.inl (IntKind.wrap .i64 (p11 + 1)))
 else
  some (.inr (.inl ()))
def iS (a0:bD) (p11:Int):Option (Unit ⊕ Unit) :=
 fA (fun (w:Int)=>cZ a0 w) p11
def fQ (a0:bD):Option (Bool) :=
 (iR a0 0).bind fun (r8:Unit ⊕ Unit)=>Sum.elim (fun z9 =>
 (iS a0 0).bind fun (r16:Unit ⊕ Unit)=>Sum.elim (fun z17 =>
  some true) (fun z18 =>
  some false) r16) (fun z10 =>
 some false) r8
def eF (a0:aA) (p1:Int) (p2:List ByteArray):Option ((Int × (List ByteArray)) ⊕ (Unit ⊕ Int)) :=
 if decide (p1 < (a0.Orders.length:Int)) = true then
  (at? a0.Orders p1).bind fun (x3:bD) =>
  if (p2.length + 1) * 16 ≤ 140737488355328 then
   (dF (p2 ++ [x3.Name]) p1).bind fun (r4:Int) =>
   if (r4 != 0) = true then
    some (.inr (.inr (r4)))
   else
    (at? a0.Orders p1).bind fun (x5:bD) =>
    (fQ x5).bind fun (r6:Bool) =>
    if (!(r6)) = true then
     some (.inr (.inr (1)))
    else
     some (.inl (IntKind.wrap .i64 (p1 + 1),p2 ++ [x3.Name]))
  else none
 else
  some (.inr (.inl ()))
def mG (a0:aA) (p1:Int) (p2:List ByteArray):Option (Unit ⊕ Int) :=
 fA (fun (w:Int × (List ByteArray))=>eF a0 w.1 w.2) (p1,p2)
def iI (a0:aA):Option (Int) :=
 if decide ((a0.Orders.length:Int) > 20) = true then
  some 6
 else
  (mG a0 0 []).bind fun (r8:Unit ⊕ Int)=>Sum.elim (fun z9 =>
  some 0) (fun z10 =>
  some z10) r8
def dV (a0:aA) (p1:Int) (x2:bA) (p6:Int):Option ((Int) ⊕ (Unit ⊕ Unit)) :=
 if decide (p6 < p1) = true then
  (at? a0.Usances p6).bind fun (x7:bA) =>
  if (x7.From == x2.From) = true then
   (at? a0.Usances p6).bind fun (x8:bA) =>
   if (x8.To == x2.To) = true then
    some (.inr (.inr (())))
   else
    some (.inl (IntKind.wrap .i64 (p6 + 1)))
  else
   some (.inl (IntKind.wrap .i64 (p6 + 1)))
 else
  some (.inr (.inl ()))
def lN (a0:aA) (p1:Int) (x2:bA) (p6:Int):Option (Unit ⊕ Unit) :=
 fA (fun (w:Int)=>dV a0 p1 x2 w) p6
def dY (a0:aA) (p1:Int):Option ((Int) ⊕ (Unit ⊕ Int)) :=
 if decide (p1 < (a0.Usances.length:Int)) = true then
  (at? a0.Usances p1).bind fun (x2:bA) =>
  (a9 x2.From 0 (IntKind.wrap .i64 ((a0.Cities.length:Int) - 1))).bind fun (r3:Bool) =>
  if (!(r3)) = true then
   some (.inr (.inr (1)))
  else
   (a9 x2.To 0 (IntKind.wrap .i64 ((a0.Cities.length:Int) - 1))).bind fun (r4:Bool) =>
   if (!(r4)) = true then
    some (.inr (.inr (1)))
   else
    (a9 x2.Days 1 20000).bind fun (r5:Bool) =>
    if (!(r5)) = true then
     some (.inr (.inr (1)))
    else
     (lN a0 p1 x2 0).bind fun (r9:Unit ⊕ Unit)=>Sum.elim (fun z10 =>
     some (.inl (IntKind.wrap .i64 (p1 + 1)))) (fun z11 =>
     some (.inr (.inr (5)))) r9
 else
  some (.inr (.inl ()))
def oN (a0:aA) (p1:Int):Option (Unit ⊕ Int) :=
 fA (fun (w:Int)=>dY a0 w) p1
def gZ (a0:aA):Option (Int) :=
 if decide ((a0.Usances.length:Int) > 100) = true then
  some 6
 else
  (oN a0 0).bind fun (r13:Unit ⊕ Int)=>Sum.elim (fun z14 =>
  some 0) (fun z15 =>
  some z15) r13
def eC (a0:aA) (p1:Int):Option ((Int) ⊕ (Unit ⊕ Unit)) :=
 if decide (p1 < (a0.Rates.length:Int)) = true then
  (at? a0.Rates p1).bind fun (x2:bX) =>
  (a9 x2.From 0 (IntKind.wrap .i64 ((a0.Currencies.length:Int) - 1))).bind fun (r3:Bool) =>
  if (!(r3)) = true then
   some (.inr (.inr (())))
  else
   (a9 x2.To 0 (IntKind.wrap .i64 ((a0.Currencies.length:Int) - 1))).bind fun (r4:Bool) =>
   if (!(r4)) = true then
    some (.inr (.inr (())))
   else
    if (x2.From == x2.To) = true then
     some (.inr (.inr (())))
    else
     (a9 x2.Num 1 1073741824).bind fun (r5:Bool) =>
     if (!(r5)) = true then
      some (.inr (.inr (())))
     else
      (a9 x2.Den 1 1073741824).bind fun (r6:Bool) =>
      if (!(r6)) = true then
       some (.inr (.inr (())))
      else
       (a9 x2.Since 0 100000).bind fun (r7:Bool) =>
       if (!(r7)) = true then
        some (.inr (.inr (())))
       else
        some (.inl (IntKind.wrap .i64 (p1 + 1)))
 else
  some (.inr (.inl ()))
def mA (a0:aA) (p1:Int):Option (Unit ⊕ Unit) :=
 fA (fun (w:Int)=>eC a0 w) p1
def eI (a0:aA) (p11:Int):Option ((Int) ⊕ (Unit ⊕ Unit)) :=
 if decide (p11 < (a0.Halts.length:Int)) = true then
  (at? a0.Halts p11).bind fun (x12:bZ) =>
  (a9 x12.Order 0 (IntKind.wrap .i64 ((a0.Orders.length:Int) - 1))).bind fun (r13:Bool) =>
  if (!(r13)) = true then
   some (.inr (.inr (())))
  else
   (a9 x12.From 0 x12.To).bind fun (r14:Bool) =>
   if (!(r14)) = true then
    some (.inr (.inr (())))
   else
    if decide (x12.To > 100000) = true then
     some (.inr (.inr (())))
    else
     some (.inl (IntKind.wrap .i64 (p11 + 1)))
 else
  some (.inr (.inl ()))
def mT (a0:aA) (p11:Int):Option (Unit ⊕ Unit) :=
 fA (fun (w:Int)=>eI a0 w) p11
def iM (a0:aA):Option (Int) :=
 if decide ((a0.Rates.length:Int) > 100) = true then
  some 6
 else
  (mA a0 0).bind fun (r8:Unit ⊕ Unit)=>Sum.elim (fun z9 =>
  if decide ((a0.Halts.length:Int) > 20) = true then
    some 6
   else
    (mT a0 0).bind fun (r15:Unit ⊕ Unit)=>Sum.elim (fun z16 =>
    some 0) (fun z17 =>
    some 1) r15) (fun z10 =>
  some 1) r8
def jC (a0:aA) (p7:Int):Option (Int) :=
 if (p7 == 0) = true then
  (iM a0).bind fun (r8:Int) =>
  some (r8)
 else
  some (p7)
def iY (a0:aA) (p5:Int):Option (Int) :=
 if (p5 == 0) = true then
  (gZ a0).bind fun (r6:Int) =>
  (jC a0 r6).bind fun (r10:Int) =>
  some (r10)
 else
  (jC a0 p5).bind fun (r11:Int) =>
  some (r11)
def jI (a0:aA) (p3:Int):Option (Int) :=
 if (p3 == 0) = true then
  (iI a0).bind fun (r4:Int) =>
  (iY a0 r4).bind fun (r13:Int) =>
  some (r13)
 else
  (iY a0 p3).bind fun (r14:Int) =>
  some (r14)
def j8 (a0:aA):Option (Int) :=
 (iP a0).bind fun (r1:Int) =>
 if (r1 == 0) = true then
  (kA a0).bind fun (r2:Int) =>
  (jI a0 r2).bind fun (r16:Int) =>
  some r16
 else
  (jI a0 r1).bind fun (r17:Int) =>
  some r17
def eZ (a0:Int) (a1:Int):Option (Bool) :=
 if decide (a0 ≥ 0) = true then
  some (decide (a0 < a1))
 else
  some false
def iD (a0:Int) (a1:Int):Option (Bool) :=
 if (a0 == (-1)) = true then
  some true
 else
  (eZ a0 a1).bind fun (r1:Bool) =>
  some r1
def kC (a0:Int):Option (Bool) :=
 if decide (a0 ≥ 0) = true then
  some (decide (a0 ≤ 100000))
 else
  some false
def gS (a0:bF):Option (Bool) :=
 if (a0.Tenor.Kind == 0) = true then
  if (a0.Tenor.N == 0) = true then
   some (a0.Tenor.Unit == 0)
  else
   some false
 else
  if (a0.Tenor.Kind == 4) = true then
   if (a0.Tenor.N == 0) = true then
    some (a0.Tenor.Unit == 0)
   else
    some false
  else
   if (a0.Tenor.Kind == 1) = true then
    if decide (a0.Tenor.N ≥ 1) = true then
     if decide (a0.Tenor.N ≤ 400) = true then
      if (a0.Tenor.Unit == 0) = true then
       some true
      else
       some (a0.Tenor.Unit == 1)
     else
      some false
    else
     some false
   else
    if (a0.Tenor.Kind == 2) = true then
     if decide (a0.Tenor.N ≥ 1) = true then
      if decide (a0.Tenor.N ≤ 400) = true then
       if (a0.Tenor.Unit == 0) = true then
        some true
       else
        some (a0.Tenor.Unit == 1)
      else
       some false
     else
      some false
    else
     if (a0.Tenor.Kind == 3) = true then
      if decide (a0.Tenor.N ≥ a0.Day) = true then
       if decide (a0.Tenor.N ≤ 100000) = true then
        some (a0.Tenor.Unit == 0)
       else
        some false
      else
       some false
     else
      some false
def eJ (a0:aA) (a1:Int) (a2:Int) (p1:Int):Option ((Int) ⊕ (Unit ⊕ Int)) :=
 if decide (p1 < (a0.Usances.length:Int)) = true then
  (at? a0.Usances p1).bind fun (x2:bA) =>
  if (x2.From == a1) = true then
   (at? a0.Usances p1).bind fun (x3:bA) =>
   if (x3.To == a2) = true then
    (at? a0.Usances p1).bind fun (x4:bA) =>
    some (.inr (.inr (x4.Days)))
   else
    some (.inl (IntKind.wrap .i64 (p1 + 1)))
  else
   some (.inl (IntKind.wrap .i64 (p1 + 1)))
 else
  some (.inr (.inl ()))
def mP (a0:aA) (a1:Int) (a2:Int) (p1:Int):Option (Unit ⊕ Int) :=
 fA (fun (w:Int)=>eJ a0 a1 a2 w) p1
def iL (a0:aA) (a1:Int) (a2:Int):Option (Int × Int) :=
 (mP a0 a1 a2 0).bind fun (r6:Unit ⊕ Int)=>Sum.elim (fun z7 =>
 some (0,4)) (fun z8 =>
 some (z8,0)) r6
def jL (a0:aA) (a1:bF):Option (Int) :=
 if (a1.Tenor.Kind != 4) = true then
  some (0)
 else
  (iL a0 a1.City a1.Pay).bind fun (r12:Int × Int) =>
  some (r12.2)
def gR (a0:aA) (a1:bF):Option (Int) :=
 (j8 a0).bind fun (r1:Int) =>
 if (r1 != 0) = true then
  some r1
 else
  (eZ a1.Drawer (a0.Firms.length:Int)).bind fun (r2:Bool) =>
  if (!(r2)) = true then
   some 1
  else
   (eZ a1.Drawee (a0.Firms.length:Int)).bind fun (r3:Bool) =>
   if (!(r3)) = true then
    some 1
   else
    (iD a1.Payee (a0.Firms.length:Int)).bind fun (r4:Bool) =>
    if (!(r4)) = true then
     some 1
    else
     (iD a1.Need (a0.Firms.length:Int)).bind fun (r5:Bool) =>
     if (!(r5)) = true then
      some 1
     else
      (eZ a1.Currency (a0.Currencies.length:Int)).bind fun (r6:Bool) =>
      if (!(r6)) = true then
       some 1
      else
       (eZ a1.City (a0.Cities.length:Int)).bind fun (r7:Bool) =>
       if (!(r7)) = true then
        some 1
       else
        (eZ a1.Pay (a0.Cities.length:Int)).bind fun (r8:Bool) =>
        if (!(r8)) = true then
         some 1
        else
         if decide (a1.Sum < 1) = true then
          some 3
         else
          if decide (a1.Sum > 1099511627776) = true then
           some 3
          else
           (kC a1.Day).bind fun (r9:Bool) =>
           if (!(r9)) = true then
            some 3
           else
            if decide (a1.Rate < 0) = true then
             some 3
            else
             if decide (a1.Rate > 1000) = true then
              some 3
             else
              if decide (a1.Parts < 1) = true then
               some 15
              else
               if decide (a1.Parts > 4) = true then
                some 15
               else
                if decide (a1.Flags < 0) = true then
                 some 2
                else
                 if decide (a1.Flags > 7) = true then
                  some 2
                 else
                  if (a1.Payee == (-1)) = true then
                   if ((IntKind.wrap .i64 (BitVec.ofInt (IntKind.bits .i64) a1.Flags &&& BitVec.ofInt (IntKind.bits .i64) 4).toNat) != 0) = true then
                    some 2
                   else
                    (gS a1).bind fun (r10:Bool) =>
                    if (!(r10)) = true then
                     some 2
                    else
                     (jL a0 a1).bind fun (r14:Int) =>
                     some r14
                  else
                   (gS a1).bind fun (r11:Bool) =>
                   if (!(r11)) = true then
                    some 2
                   else
                    (jL a0 a1).bind fun (r15:Int) =>
                    some r15
def iK (a0:aB) (a1:Int) (a2:Int):Option (Bool) :=
 if (a1 == 0) = true then
  some true
 else
  (at? a0.Signs a1).bind fun (x1:aX) =>
  some (x1.Part == a2)
def gQ (a0:aB) (a1:Int):Option (Bool) :=
 (at? a0.Signs a1).bind fun (x1:aX) =>
 (a9 x1.For 0 (IntKind.wrap .i64 (a1 - 1))).bind fun (r2:Bool) =>
 if r2 = true then
  (at? a0.Signs a1).bind fun (x3:aX) =>
  (iK a0 x1.For x3.Part).bind fun (r4:Bool) =>
  some r4
 else
  some false
def lC (a0:aA) (a1:aB) (a2:Int):Option (Bool) :=
 (at? a1.Signs a2).bind fun (x1:aX) =>
 (a9 x1.Sum 1 1099511627776).bind fun (r2:Bool) =>
 if (x1.Kind == 0) = true then
  if (a2 == 0) = true then
   if (x1.Who == a1.Bill.Drawer) = true then
    if (x1.For == (-1)) = true then
     if (x1.To == (-1)) = true then
      if (x1.Sum == 0) = true then
       if (x1.Flags == 0) = true then
        if (x1.Part == 0) = true then
         some (x1.City == a1.Bill.City)
        else
         some false
       else
        if (x1.Flags == 1) = true then
         if (x1.Part == 0) = true then
          some (x1.City == a1.Bill.City)
         else
          some false
        else
         some false
      else
       some false
     else
      some false
    else
     some false
   else
    some false
  else
   some false
 else
  if (x1.Kind == 1) = true then
   if decide (a2 > 0) = true then
    if (x1.Who == a1.Bill.Drawee) = true then
     if (x1.For == (-1)) = true then
      if (x1.To == (-1)) = true then
       if r2 = true then
        some (x1.Flags == 0)
       else
        some false
      else
       some false
     else
      some false
    else
     some false
   else
    some false
  else
   if (x1.Kind == 2) = true then
    if decide (a2 > 0) = true then
     if (x1.For == (-1)) = true then
      (a9 x1.To (-1) (IntKind.wrap .i64 ((a0.Firms.length:Int) - 1))).bind fun (r3:Bool) =>
      if r3 = true then
       if (x1.Sum == 0) = true then
        (a9 x1.Flags 0 7).bind fun (r4:Bool) =>
        if r4 = true then
         if (((IntKind.wrap .i64 (x1.Flags.tdiv 2)).tmod 2) == 1) = true then
          some (!(((IntKind.wrap .i64 (x1.Flags.tdiv 4)).tmod 2) == 1))
         else
          some true
        else
         some false
       else
        some false
      else
       some false
     else
      some false
    else
     some false
   else
    if (x1.Kind == 3) = true then
     if (a2 == 0) = true then
      some false
     else
      if (x1.To != (-1)) = true then
       some false
      else
       if (x1.Sum != 0) = true then
        some false
       else
        if (x1.Flags != 0) = true then
         some false
        else
         (gQ a1 a2).bind fun (r5:Bool) =>
         if (!(r5)) = true then
          some false
         else
          (at? a1.Signs x1.For).bind fun (x6:aX) =>
          some (x6.Kind != 3)
    else
     if (x1.Kind == 4) = true then
      if (a2 == 0) = true then
       some false
      else
       if (x1.To != (-1)) = true then
        some false
       else
        if (!(r2)) = true then
         some false
        else
         if (x1.Flags != 0) = true then
          some false
         else
          if (x1.Who == a1.Bill.Drawee) = true then
           some false
          else
           (gQ a1 a2).bind fun (r7:Bool) =>
           if (!(r7)) = true then
            some false
           else
            (at? a1.Signs x1.For).bind fun (x8:aX) =>
            if (x8.Kind == 0) = true then
             some true
            else
             (at? a1.Signs x1.For).bind fun (x9:aX) =>
             some (x9.Kind == 2)
     else
      some false
def dQ (a1:aB) (a2:Int) (x1:aX) (p7:Int):Option ((Int) ⊕ (Unit ⊕ Unit)) :=
 if decide (p7 < a2) = true then
  if (x1.Kind == 1) = true then
   (at? a1.Signs p7).bind fun (x8:aX) =>
   if (x8.Kind == 1) = true then
    (at? a1.Signs p7).bind fun (x9:aX) =>
    if (x9.Part == x1.Part) = true then
     some (.inr (.inr (())))
    else
     some (.inl (IntKind.wrap .i64 (p7 + 1)))
   else
    some (.inl (IntKind.wrap .i64 (p7 + 1)))
  else
   some (.inr (.inl ()))
 else
  some (.inr (.inl ()))
def eN (a1:aB) (a2:Int) (x1:aX) (p7:Int):Option (Unit ⊕ Unit) :=
 fA (fun (w:Int)=>dQ a1 a2 x1 w) p7
def jV (a0:aA) (a1:aB) (a2:Int) (x1:aX):Option (Int) :=
 (lC a0 a1 a2).bind fun (r6:Bool) =>
 if (!(r6)) = true then
  some (14)
 else
  (eN a1 a2 x1 0).bind fun (r10:Unit ⊕ Unit)=>Sum.elim (fun z11 =>
  some (0)) (fun z12 =>
  some (5)) r10
def jW (a0:aA) (a1:aB) (a2:Int) (x1:aX):Option (Int) :=
 if decide (a2 > 0) = true then
  (at? a1.Signs (IntKind.wrap .i64 (a2 - 1))).bind fun (x5:aX) =>
  if decide (x1.Day < x5.Day) = true then
   some (13)
  else
   (jV a0 a1 a2 x1).bind fun (r14:Int) =>
   some (r14)
 else
  (jV a0 a1 a2 x1).bind fun (r15:Int) =>
  some (r15)
def kB (a0:aA) (a1:aB) (a2:Int):Option (Int) :=
 (at? a1.Signs a2).bind fun (x1:aX) =>
 (a9 x1.Part 0 (IntKind.wrap .i64 (a1.Bill.Parts - 1))).bind fun (r2:Bool) =>
 if (!(r2)) = true then
  some 15
 else
  (a9 x1.Who 0 (IntKind.wrap .i64 ((a0.Firms.length:Int) - 1))).bind fun (r3:Bool) =>
  if (!(r3)) = true then
   some 1
  else
   (a9 x1.City 0 (IntKind.wrap .i64 ((a0.Cities.length:Int) - 1))).bind fun (r4:Bool) =>
   if (!(r4)) = true then
    some 1
   else
    if (a2 == 0) = true then
     if (x1.Day != a1.Bill.Day) = true then
      some 13
     else
      if decide (x1.Day > 100000) = true then
       some 13
      else
       (jW a0 a1 a2 x1).bind fun (r17:Int) =>
       some r17
    else
     if decide (x1.Day > 100000) = true then
      some 13
     else
      (jW a0 a1 a2 x1).bind fun (r18:Int) =>
      some r18
def i6 (a2:bP) (p6:Bool) (p8:Bool) (r2:Bool) (r3:Bool):Option (Unit ⊕ Bool) :=
 if (a2.Kind == 4) = true then
  if r2 = true then
   if (a2.At == (-1)) = true then
    if r3 = true then
     if (a2.Form == 0) = true then
      some (.inr (true))
     else
      some (.inr (a2.Form == 1))
    else
     some (.inr (false))
   else
    some (.inr (false))
  else
   some (.inr (false))
 else
  if (a2.Kind == 6) = true then
   if r2 = true then
    if p8 = true then
     if r3 = true then
      if decide (a2.Sum > 0) = true then
       some (.inr (a2.Form == 0))
      else
       some (.inr (false))
     else
      some (.inr (false))
    else
     some (.inr (false))
   else
    some (.inr (false))
  else
   if (a2.Kind == 9) = true then
    if (a2.To == (-1)) = true then
     if p8 = true then
      if (a2.Sum == 0) = true then
       some (.inr (a2.Form == 0))
      else
       some (.inr (false))
     else
      some (.inr (false))
    else
     some (.inr (false))
   else
    if (a2.Kind == 7) = true then
     if (a2.Kind == 7) = true then
      if (a2.To == (-1)) = true then
       if p6 = true then
        if (a2.Sum == 0) = true then
         some (.inr (a2.Form == 0))
        else
         some (.inr (false))
       else
        some (.inr (false))
      else
       some (.inr (false))
     else
      some (.inl ())
    else
     if (a2.Kind == 8) = true then
      if (a2.To == (-1)) = true then
       if p6 = true then
        if (a2.Sum == 0) = true then
         some (.inr (a2.Form == 0))
        else
         some (.inr (false))
       else
        some (.inr (false))
      else
       some (.inr (false))
     else
      some (.inl ())
def gL (a2:bP) (p6:Bool) (p8:Bool) (r2:Bool) (r3:Bool):Option (Unit ⊕ Bool) :=
 if (a2.Kind == 3) = true then
  if (a2.Kind == 3) = true then
   if r2 = true then
    if (a2.At == (-1)) = true then
     if r3 = true then
      some (.inr (a2.Form == 0))
     else
      some (.inr (false))
    else
     some (.inr (false))
   else
    some (.inr (false))
  else
   (i6 a2 p6 p8 r2 r3).bind fun (r10:Unit ⊕ Bool)=>Sum.elim (fun z11 =>
   some (.inl ())) (fun z12 =>
   some (.inr (z12))) r10
 else
  if (a2.Kind == 5) = true then
   if r2 = true then
    if (a2.At == (-1)) = true then
     if r3 = true then
      some (.inr (a2.Form == 0))
     else
      some (.inr (false))
    else
     some (.inr (false))
   else
    some (.inr (false))
  else
   (i6 a2 p6 p8 r2 r3).bind fun (r13:Unit ⊕ Bool)=>Sum.elim (fun z14 =>
   some (.inl ())) (fun z15 =>
   some (.inr (z15))) r13
def gH (a2:bP) (p6:Bool) (r2:Bool) (r3:Bool) (p8:Bool):Option (Bool) :=
 if (a2.Kind == 0) = true then
  if (a2.Kind == 0) = true then
   if r2 = true then
    if (a2.At == (-1)) = true then
     if (a2.Sum == 0) = true then
      some (a2.Form == 0)
     else
      some (false)
    else
     some (false)
   else
    some (false)
  else
   (gL a2 p6 p8 r2 r3).bind fun (r17:Unit ⊕ Bool)=>Sum.elim (fun z18 =>
   some (false)) (fun z19 =>
   some (z19)) r17
 else
  if (a2.Kind == 1) = true then
   if (a2.Kind == 1) = true then
    if r2 = true then
     if (a2.At == (-1)) = true then
      if (a2.Sum == 0) = true then
       some (a2.Form == 0)
      else
       some (false)
     else
      some (false)
    else
     some (false)
   else
    (gL a2 p6 p8 r2 r3).bind fun (r20:Unit ⊕ Bool)=>Sum.elim (fun z21 =>
    some (false)) (fun z22 =>
    some (z22)) r20
  else
   if (a2.Kind == 2) = true then
    if r2 = true then
     if (a2.At == (-1)) = true then
      if (a2.Sum == 0) = true then
       some (a2.Form == 0)
      else
       some (false)
     else
      some (false)
    else
     some (false)
   else
    (gL a2 p6 p8 r2 r3).bind fun (r23:Unit ⊕ Bool)=>Sum.elim (fun z24 =>
    some (false)) (fun z25 =>
    some (z25)) r23
def gM (a1:aB) (a2:bP) (r2:Bool) (r3:Bool) (p6:Bool):Option (Bool) :=
 if p6 = true then
  (at? a1.Signs a2.At).bind fun (x7:aX) =>
  (gH a2 p6 r2 r3 (x7.Who == a2.Who)).bind fun (r27:Bool) =>
  some (r27)
 else
  (gH a2 p6 r2 r3 false).bind fun (r28:Bool) =>
  some (r28)
def kE (a0:aA) (a1:aB) (a2:bP):Option (Bool) :=
 (a9 a2.Who 0 (IntKind.wrap .i64 ((a0.Firms.length:Int) - 1))).bind fun (r1:Bool) =>
 if (!(r1)) = true then
  some false
 else
  (a9 a2.To 0 (IntKind.wrap .i64 ((a0.Firms.length:Int) - 1))).bind fun (r2:Bool) =>
  (a9 a2.Sum 0 1099511627776).bind fun (r3:Bool) =>
  (a9 a2.At 0 (IntKind.wrap .i64 ((a1.Signs.length:Int) - 1))).bind fun (r4:Bool) =>
  if r4 = true then
   (iK a1 a2.At a2.Part).bind fun (r5:Bool) =>
   (gM a1 a2 r2 r3 r5).bind fun (r30:Bool) =>
   some r30
  else
   (gM a1 a2 r2 r3 r4).bind fun (r31:Bool) =>
   some r31
def k7 (a1:aB) (a2:Int) (x1:bP):Option (Int) :=
 if decide (a2 > 0) = true then
  (at? a1.Acts (IntKind.wrap .i64 (a2 - 1))).bind fun (x7:bP) =>
  if decide (x1.Day < x7.Day) = true then
   some (13)
  else
   some (0)
 else
  some (0)
def lD (a0:aA) (a1:aB) (a2:Int):Option (Int) :=
 (at? a1.Acts a2).bind fun (x1:bP) =>
 (a9 x1.Part 0 (IntKind.wrap .i64 (a1.Bill.Parts - 1))).bind fun (r2:Bool) =>
 if (!(r2)) = true then
  some 15
 else
  (a9 x1.City 0 (IntKind.wrap .i64 ((a0.Cities.length:Int) - 1))).bind fun (r3:Bool) =>
  if (!(r3)) = true then
   some 1
  else
   (a9 x1.Kind 0 9).bind fun (r4:Bool) =>
   if (!(r4)) = true then
    some 1
   else
    (kE a0 a1 x1).bind fun (r5:Bool) =>
    if (!(r5)) = true then
     some 14
    else
     if decide (x1.Day < a1.Bill.Day) = true then
      some 13
     else
      if decide (x1.Day > 100000) = true then
       some 13
      else
       if decide (x1.At ≥ 0) = true then
        (at? a1.Signs x1.At).bind fun (x6:aX) =>
        if decide (x1.Day < x6.Day) = true then
         some 13
        else
         (k7 a1 a2 x1).bind fun (r9:Int) =>
         some r9
       else
        (k7 a1 a2 x1).bind fun (r10:Int) =>
        some r10
def j9 (a0:aB) (a1:Int):Option (Int) :=
 (at? a0.Facts a1).bind fun (x1:bS) =>
 (a9 x1.Kind 0 4).bind fun (r2:Bool) =>
 if (!(r2)) = true then
  some 1
 else
  (a9 x1.At 0 (IntKind.wrap .i64 ((a0.Signs.length:Int) - 1))).bind fun (r3:Bool) =>
  if (!(r3)) = true then
   some 1
  else
   (a9 x1.N 0 1).bind fun (r4:Bool) =>
   if (!(r4)) = true then
    some 1
   else
    if decide (a1 > 0) = true then
     (at? a0.Facts (IntKind.wrap .i64 (a1 - 1))).bind fun (x5:bS) =>
     if decide (x5.At > x1.At) = true then
      some 5
     else
      if (x5.At == x1.At) = true then
       if decide (x5.Kind ≥ x1.Kind) = true then
        some 5
       else
        some 0
      else
       some 0
    else
     some 0
def dP (a0:aA) (a1:aB) (p3:Int) (p4:Int):Option ((Int × Int) ⊕ (Int)) :=
 if decide (p4 < (a1.Signs.length:Int)) = true then
  if (p3 == 0) = true then
   (kB a0 a1 p4).bind fun (r5:Int) =>
   some (.inl (r5,IntKind.wrap .i64 (p4 + 1)))
  else
   some (.inr (p3))
 else
  some (.inr (p3))
def jF (a0:aA) (a1:aB) (p3:Int) (p4:Int):Option (Int) :=
 fA (fun (w:Int × Int)=>dP a0 a1 w.1 w.2) (p3,p4)
def gI (a0:aA) (a1:aB) (p8:Int) (p9:Int) (p11:Int):Option (Int) :=
 (at? a1.Alters p9).bind fun (x12:bE) =>
 (a9 x12.At p11 (a1.Signs.length:Int)).bind fun (r13:Bool) =>
 if (!(r13)) = true then
  some (1)
 else
  (at? a1.Alters p9).bind fun (x14:bE) =>
  (a9 x14.Sum 1 1099511627776).bind fun (r15:Bool) =>
  if (!(r15)) = true then
   some (3)
  else
   some (p8)
def dO (a0:aA) (a1:aB) (p8:Int) (p9:Int):Option ((Int × Int) ⊕ (Int)) :=
 if decide (p9 < (a1.Alters.length:Int)) = true then
  if (p8 == 0) = true then
   if decide (p9 > 0) = true then
    (at? a1.Alters (IntKind.wrap .i64 (p9 - 1))).bind fun (x10:bE) =>
    (gI a0 a1 p8 p9 (IntKind.wrap .i64 (x10.At + 1))).bind fun (r17:Int) =>
    some (.inl (r17,IntKind.wrap .i64 (p9 + 1)))
   else
    (gI a0 a1 p8 p9 1).bind fun (r18:Int) =>
    some (.inl (r18,IntKind.wrap .i64 (p9 + 1)))
  else
   some (.inr (p8))
 else
  some (.inr (p8))
def jU (a0:aA) (a1:aB) (p8:Int) (p9:Int):Option (Int) :=
 fA (fun (w:Int × Int)=>dO a0 a1 w.1 w.2) (p8,p9)
def dM (a0:aA) (a1:aB) (p21:Int) (p22:Int):Option ((Int × Int) ⊕ (Int)) :=
 if decide (p22 < (a1.Acts.length:Int)) = true then
  if (p21 == 0) = true then
   (lD a0 a1 p22).bind fun (r23:Int) =>
   some (.inl (r23,IntKind.wrap .i64 (p22 + 1)))
  else
   some (.inr (p21))
 else
  some (.inr (p21))
def i7 (a0:aA) (a1:aB) (p21:Int) (p22:Int):Option (Int) :=
 fA (fun (w:Int × Int)=>dM a0 a1 w.1 w.2) (p21,p22)
def dN (a1:aB) (p26:Int) (p27:Int):Option ((Int × Int) ⊕ (Int)) :=
 if decide (p27 < (a1.Facts.length:Int)) = true then
  if (p26 == 0) = true then
   (j9 a1 p27).bind fun (r28:Int) =>
   some (.inl (r28,IntKind.wrap .i64 (p27 + 1)))
  else
   some (.inr (p26))
 else
  some (.inr (p26))
def i9 (a1:aB) (p26:Int) (p27:Int):Option (Int) :=
 fA (fun (w:Int × Int)=>dN a1 w.1 w.2) (p26,p27)
def fM (a0:aA) (a1:aB) (p2:Int):Option (Int) :=
 (jF a0 a1 p2 0).bind fun (r7:Int) =>
 (jU a0 a1 r7 0).bind fun (r20:Int) =>
 (i7 a0 a1 r20 0).bind fun (r25:Int) =>
 (i9 a1 r25 0).bind fun (r30:Int) =>
 some (r30)
def fT (a0:aA) (a1:aB):Option (Int) :=
 if decide ((a1.Signs.length:Int) > 40) = true then
  some 6
 else
  if decide ((a1.Alters.length:Int) > 4) = true then
   some 6
  else
   if decide ((a1.Acts.length:Int) > 100) = true then
    some 6
   else
    if decide ((a1.Facts.length:Int) > 200) = true then
     some 6
    else
     (gR a0 a1.Bill).bind fun (r1:Int) =>
     if (r1 == 0) = true then
      if ((a1.Signs.length:Int) == 0) = true then
       (fM a0 a1 14).bind fun (r32:Int) =>
       some r32
      else
       (fM a0 a1 r1).bind fun (r33:Int) =>
       some r33
     else
      (fM a0 a1 r1).bind fun (r34:Int) =>
      some r34
def mI (a0:aA) (a1:aB) (a2:aX):Option (aB × Int) :=
 if (0 + a1.Signs.length) * 72 ≤ 140737488355328 then
  if ((([]:List aX) ++ a1.Signs).length + 1) * 72 ≤ 140737488355328 then
   (fT a0 (aB.mk a1.Bill ((([]:List aX) ++ a1.Signs) ++ [a2]) a1.Alters a1.Acts a1.Facts)).bind fun (r1:Int) =>
   if (r1 != 0) = true then
    some ((aB.mk (bF.mk 0 0 0 0 0 (bR.mk 0 0 0) 0 0 0 0 0 0 0) [] [] [] []),r1)
   else
    some ((aB.mk a1.Bill ((([]:List aX) ++ a1.Signs) ++ [a2]) a1.Alters a1.Acts a1.Facts),0)
  else none
 else none
def fB (a0:aB) (a1:aB) (p1:Int):Option ((Int) ⊕ (Unit ⊕ Unit)) :=
 if decide (p1 < (a0.Signs.length:Int)) = true then
  (at? a0.Signs p1).bind fun (x2:aX) =>
  (at? a1.Signs p1).bind fun (x3:aX) =>
  if (!((x2.Kind == x3.Kind) && ((x2.Part == x3.Part) && ((x2.Who == x3.Who) && ((x2.For == x3.For) && ((x2.To == x3.To) && ((x2.Sum == x3.Sum) && ((x2.Day == x3.Day) && ((x2.City == x3.City) && (x2.Flags == x3.Flags)))))))))) = true then
   some (.inr (.inr (())))
  else
   some (.inl (IntKind.wrap .i64 (p1 + 1)))
 else
  some (.inr (.inl ()))
def nN (a0:aB) (a1:aB) (p1:Int):Option (Unit ⊕ Unit) :=
 fA (fun (w:Int)=>fB a0 a1 w) p1
def fE (a0:aB) (a1:aB) (p7:Int):Option ((Int) ⊕ (Unit ⊕ Unit)) :=
 if decide (p7 < (a0.Alters.length:Int)) = true then
  (at? a0.Alters p7).bind fun (x8:bE) =>
  (at? a1.Alters p7).bind fun (x9:bE) =>
  if (!((x8.At == x9.At) && (x8.Sum == x9.Sum))) = true then
   some (.inr (.inr (())))
  else
   some (.inl (IntKind.wrap .i64 (p7 + 1)))
 else
  some (.inr (.inl ()))
def nI (a0:aB) (a1:aB) (p7:Int):Option (Unit ⊕ Unit) :=
 fA (fun (w:Int)=>fE a0 a1 w) p7
def fH (a0:aB) (a1:aB) (p13:Int):Option ((Int) ⊕ (Unit ⊕ Unit)) :=
 if decide (p13 < (a0.Acts.length:Int)) = true then
  (at? a0.Acts p13).bind fun (x14:bP) =>
  (at? a1.Acts p13).bind fun (x15:bP) =>
  if (!((x14.Kind == x15.Kind) && ((x14.Who == x15.Who) && ((x14.To == x15.To) && ((x14.Part == x15.Part) && ((x14.At == x15.At) && ((x14.Sum == x15.Sum) && ((x14.Day == x15.Day) && ((x14.City == x15.City) && (x14.Form == x15.Form)))))))))) = true then
   some (.inr (.inr (())))
  else
   some (.inl (IntKind.wrap .i64 (p13 + 1)))
 else
  some (.inr (.inl ()))
def nJ (a0:aB) (a1:aB) (p13:Int):Option (Unit ⊕ Unit) :=
 fA (fun (w:Int)=>fH a0 a1 w) p13
def eX (a0:aB) (a1:aB) (p19:Int):Option ((Int) ⊕ (Unit ⊕ Unit)) :=
 if decide (p19 < (a0.Facts.length:Int)) = true then
  (at? a0.Facts p19).bind fun (x20:bS) =>
  (at? a1.Facts p19).bind fun (x21:bS) =>
  if (!((x20.Kind == x21.Kind) && ((x20.At == x21.At) && (x20.N == x21.N)))) = true then
   some (.inr (.inr (())))
  else
   some (.inl (IntKind.wrap .i64 (p19 + 1)))
 else
  some (.inr (.inl ()))
def nO (a0:aB) (a1:aB) (p19:Int):Option (Unit ⊕ Unit) :=
 fA (fun (w:Int)=>eX a0 a1 w) p19
def iB (a0:aB) (a1:aB):Option (Bool) :=
 if (!((a0.Bill.Drawer == a1.Bill.Drawer) && ((a0.Bill.Drawee == a1.Bill.Drawee) && ((a0.Bill.Payee == a1.Bill.Payee) && ((a0.Bill.Sum == a1.Bill.Sum) && ((a0.Bill.Currency == a1.Bill.Currency) && ((a0.Bill.Tenor.Kind == a1.Bill.Tenor.Kind) && ((a0.Bill.Tenor.N == a1.Bill.Tenor.N) && ((a0.Bill.Tenor.Unit == a1.Bill.Tenor.Unit) && ((a0.Bill.Day == a1.Bill.Day) && ((a0.Bill.City == a1.Bill.City) && ((a0.Bill.Pay == a1.Bill.Pay) && ((a0.Bill.Need == a1.Bill.Need) && ((a0.Bill.Rate == a1.Bill.Rate) && ((a0.Bill.Flags == a1.Bill.Flags) && (a0.Bill.Parts == a1.Bill.Parts)))))))))))))))) = true then
  some false
 else
  if ((a0.Signs.length:Int) != (a1.Signs.length:Int)) = true then
   some false
  else
   if ((a0.Alters.length:Int) != (a1.Alters.length:Int)) = true then
    some false
   else
    if ((a0.Acts.length:Int) != (a1.Acts.length:Int)) = true then
     some false
    else
     if ((a0.Facts.length:Int) != (a1.Facts.length:Int)) = true then
      some false
     else
      (nN a0 a1 0).bind fun (r4:Unit ⊕ Unit)=>Sum.elim (fun z5 =>
      (nI a0 a1 0).bind fun (r10:Unit ⊕ Unit)=>Sum.elim (fun z11 =>
       (nJ a0 a1 0).bind fun (r16:Unit ⊕ Unit)=>Sum.elim (fun z17 =>
        (nO a0 a1 0).bind fun (r22:Unit ⊕ Unit)=>Sum.elim (fun z23 =>
         some true) (fun z24 =>
         some false) r22) (fun z18 =>
        some false) r16) (fun z12 =>
       some false) r10) (fun z6 =>
      some false) r4
def fV (a0:aB) (a1:Int) (p1:Int) (p2:List Int):Option ((Int × (List Int)) ⊕ ((List Int))) :=
 if decide (p1 < (a0.Signs.length:Int)) = true then
  (iK a0 p1 a1).bind fun (r3:Bool) =>
  if r3 = true then
   if (p2.length + 1) * 8 ≤ 140737488355328 then
    some (.inl (IntKind.wrap .i64 (p1 + 1),p2 ++ [p1]))
   else none
  else
   some (.inl (IntKind.wrap .i64 (p1 + 1),p2))
 else
  some (.inr (p2))
def mU (a0:aB) (a1:Int) (p1:Int) (p2:List Int):Option ((List Int)) :=
 fA (fun (w:Int × (List Int))=>fV a0 a1 w.1 w.2) (p1,p2)
def nC (a0:aB) (a1:Int):Option ((List Int)) :=
 (mU a0 a1 0 []).bind fun (r5:(List Int)) =>
 some r5
def lJ (a0:aB) (a1:Int) (p1:Int) (p2:List Bool):Option ((Int × (List Bool)) ⊕ ((List Bool))) :=
 if decide (p1 < (a0.Acts.length:Int)) = true then
  (at? a0.Acts p1).bind fun (x3:bP) =>
  if (x3.Kind == 7) = true then
   if decide (x3.Day ≤ a1) = true then
    (cU x3.At 0 (IntKind.wrap .i64 ((p2.length:Int) - 1))).bind fun (r4:Bool) =>
    if r4 = true then
     if 0 ≤ x3.At ∧ x3.At.toNat < p2.length then
      (p2[x3.At.toNat]?).bind fun (x5:Bool) =>
      some (.inl (IntKind.wrap .i64 (p1 + 1),p2.set x3.At.toNat true))
     else none
    else
     some (.inl (IntKind.wrap .i64 (p1 + 1),p2))
   else
    some (.inl (IntKind.wrap .i64 (p1 + 1),p2))
  else
   some (.inl (IntKind.wrap .i64 (p1 + 1),p2))
 else
  some (.inr (p2))
def o3 (a0:aB) (a1:Int) (p1:Int) (p2:List Bool):Option ((List Bool)) :=
 fA (fun (w:Int × (List Bool))=>lJ a0 a1 w.1 w.2) (p1,p2)
def qP (a0:aB) (a1:Int):Option ((List Bool)) :=
 if 0 ≤ (a0.Signs.length:Int) ∧ (a0.Signs.length:Int) ≤ (a0.Signs.length:Int) ∧ 1 * (a0.Signs.length:Int) ≤ 281474976710656 ∧ (a0.Signs.length:Int) ≤ 9223372036854775807 then
  (o3 a0 a1 0 (List.replicate ((a0.Signs.length:Int).toNat) false)).bind fun (r7:(List Bool)) =>
  some r7
 else none
def eH (a0:aB) (a1:Int) (p1:Int) (p2:List Bool) (p3:Bool) (p4:Int):Option ((Bool × Int) ⊕ (Bool)) :=
 if decide (p4 < (a0.Acts.length:Int)) = true then
  if p3 = true then
   some (.inl (true,IntKind.wrap .i64 (p4 + 1)))
  else
   (at? a0.Acts p4).bind fun (x5:bP) =>
   if (x5.Kind == 7) = true then
    (at? a0.Acts p4).bind fun (x6:bP) =>
    if (x6.At == p1) = true then
     (at? a0.Acts p4).bind fun (x7:bP) =>
     some (.inl (decide (x7.Day ≤ a1),IntKind.wrap .i64 (p4 + 1)))
    else
     some (.inl (false,IntKind.wrap .i64 (p4 + 1)))
   else
    some (.inl (false,IntKind.wrap .i64 (p4 + 1)))
 else
  some (.inr (p3))
def iF (a0:aB) (a1:Int) (p1:Int) (p2:List Bool) (p3:Bool) (p4:Int):Option (Bool) :=
 fA (fun (w:Bool × Int)=>eH a0 a1 p1 p2 w.1 w.2) (p3,p4)
def eE (a0:aB) (a1:Int) (p1:Int) (p2:List Bool):Option ((Int × (List Bool)) ⊕ ((List Bool))) :=
 if decide (p1 < (a0.Signs.length:Int)) = true then
  (iF a0 a1 p1 p2 false 0).bind fun (r9:Bool) =>
  if (p2.length + 1) * 1 ≤ 140737488355328 then
   some (.inl (IntKind.wrap .i64 (p1 + 1),p2 ++ [r9]))
  else none
 else
  some (.inr (p2))
def iG (a0:aB) (a1:Int) (p1:Int) (p2:List Bool):Option ((List Bool)) :=
 fA (fun (w:Int × (List Bool))=>eE a0 a1 w.1 w.2) (p1,p2)
def iN (a0:aB) (a1:Int):Option ((List Bool)) :=
 (iG a0 a1 0 []).bind fun (r11:(List Bool)) =>
 some r11
def dD (a0:List Bool) (a1:List Bool) (p1:Int):Option ((Int) ⊕ (Unit ⊕ Unit)) :=
 if decide (p1 < (a0.length:Int)) = true then
  (at? a0 p1).bind fun (x2:Bool) =>
  (at? a1 p1).bind fun (x3:Bool) =>
  if (!(x2 == x3)) = true then
   some (.inr (.inr (())))
  else
   some (.inl (IntKind.wrap .i64 (p1 + 1)))
 else
  some (.inr (.inl ()))
def iW (a0:List Bool) (a1:List Bool) (p1:Int):Option (Unit ⊕ Unit) :=
 fA (fun (w:Int)=>dD a0 a1 w) p1
def gD (a0:List Bool) (a1:List Bool):Option (Bool) :=
 if ((a0.length:Int) != (a1.length:Int)) = true then
  some false
 else
  (iW a0 a1 0).bind fun (r4:Unit ⊕ Unit)=>Sum.elim (fun z5 =>
  some true) (fun z6 =>
  some false) r4
def dW (a0:aB) (p1:Int) (p2:List Int):Option ((Int × (List Int)) ⊕ ((List Int))) :=
 if decide (p1 < (a0.Signs.length:Int)) = true then
  (at? a0.Signs p1).bind fun (x3:aX) =>
  if (x3.Kind == 1) = true then
   if (p2.length + 1) * 8 ≤ 140737488355328 then
    some (.inl (IntKind.wrap .i64 (p1 + 1),p2 ++ [p1]))
   else none
  else
   some (.inl (IntKind.wrap .i64 (p1 + 1),p2))
 else
  some (.inr (p2))
def hU (a0:aB) (p1:Int) (p2:List Int):Option ((List Int)) :=
 fA (fun (w:Int × (List Int))=>dW a0 w.1 w.2) (p1,p2)
def gY (a0:aB):Option ((List Int)) :=
 (hU a0 0 []).bind fun (r5:(List Int)) =>
 some r5
def eQ (a0:aB) (a1:Int) (p1:Int):Option ((Int) ⊕ (Unit ⊕ Int)) :=
 if decide (p1 ≥ 0) = true then
  (at? a0.Alters p1).bind fun (x2:bE) =>
  if decide (x2.At ≤ a1) = true then
   (at? a0.Alters p1).bind fun (x3:bE) =>
   some (.inr (.inr (x3.Sum)))
  else
   some (.inl (IntKind.wrap .i64 (p1 - 1)))
 else
  some (.inr (.inl ()))
def jP (a0:aB) (a1:Int) (p1:Int):Option (Unit ⊕ Int) :=
 fA (fun (w:Int)=>eQ a0 a1 w) p1
def kD (a0:aB) (a1:Int):Option (Int) :=
 (jP a0 a1 (IntKind.wrap .i64 ((a0.Alters.length:Int) - 1))).bind fun (r5:Unit ⊕ Int)=>Sum.elim (fun z6 =>
 some a0.Bill.Sum) (fun z7 =>
 some z7) r5
def hX (a0:aA) (a1:aB) (a2:aX) (a3:Int) (a4:Int):Option (Bool) :=
 (fN).bind fun (r1:Bool) =>
 (mB a1).bind fun (r2:Bool) =>
 if (!(r2)) = true then
  some r1
 else
  (fY a0 a1 a2).bind fun (r3:aB × Int) =>
  (mI a0 a1 a2).bind fun (r4:aB × Int) =>
  if (r3.2 != r4.2) = true then
   some false
  else
   (iB r3.1 r4.1).bind fun (r5:Bool) =>
   if (!(r5)) = true then
    some false
   else
    (lP a0 a1).bind fun (r6:Int) =>
    (fT a0 a1).bind fun (r7:Int) =>
    if (r6 != r7) = true then
     some false
    else
     if r1 = true then
      (vE a1 a3).bind fun (r8:(List Int)) =>
      (nC a1 a3).bind fun (r9:(List Int)) =>
      (dJ r8 r9).bind fun (r10:Bool) =>
      if r10 = true then
       (qP a1 a4).bind fun (r11:(List Bool)) =>
       (iN a1 a4).bind fun (r12:(List Bool)) =>
       (gD r11 r12).bind fun (r13:Bool) =>
       if r13 = true then
        (l8 a1).bind fun (r14:(List Int)) =>
        (gY a1).bind fun (r15:(List Int)) =>
        (dJ r14 r15).bind fun (r16:Bool) =>
        if r16 = true then
         (lW a1 a3).bind fun (r17:Int) =>
         (kD a1 a3).bind fun (r18:Int) =>
         some (r17 == r18)
        else
         some false
       else
        some false
      else
       some false
     else
      some false
end
end Go.Proofs.Ytfhebiceipgdmaa
