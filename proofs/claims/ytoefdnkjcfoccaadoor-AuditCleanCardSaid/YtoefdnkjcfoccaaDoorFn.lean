/- What the functions answer. -/
import Derived.Test.YtoefdnkjcfoccaaDoorTab
set_option linter.unusedVariables false
set_option linter.unusedSimpArgs false
namespace Go.Proofs.YtoefdnkjcfoccaaDoor
noncomputable section
open Vm
open Go.RowKit
def kP (a0:ByteArray) (a1 p1:Int) (p2:List aS):Option ((Int × (List aS)) ⊕ ((List aS))) :=
 if decide (p1 < 22) = true then
  if (p1 != a1) = true then
   if (p2.length + 1) * 48 <= 140737488355328 then
    some (.inl (IntKind.wrap .i64 (p1 + 1),p2 ++ [(aS.mk p1 (aF.mk 1 1 []))]))
   else none
  else
   some (.inl (IntKind.wrap .i64 (p1 + 1),p2))
 else
  some (.inr (p2))
def qM (a0:ByteArray) (a1 p1:Int) (p2:List aS):Option ((List aS)) :=
 eJ (fun (w:Int × (List aS))=>kP a0 a1 w.1 w.2) (p1,p2)
def lT (a0:ByteArray) (a1:Int):Option (aJ) :=
 (qM a0 a1 0 []).bind fun (r4:(List aS)) =>
 some (aJ.mk a0 false [] r4)
def m9:Option (aB) :=
 (lT (⟨#[103,101,110,101,118,97]⟩ : ByteArray) (-1)).bind fun (r1:aJ) =>
 (lT (⟨#[108,111,110,100,111,110]⟩ : ByteArray) 6).bind fun (r2:aJ) =>
 some (aB.mk [] [] [] [] [(aJ.mk r1.Name r1.Accepts [(aQ.mk 1 4 true),(aQ.mk 6 2 false)] r1.Rules),(aJ.mk r2.Name r2.Accepts [(aQ.mk 1 1 true)] r2.Rules)] [] [] [])
def jI (a0:aB) (p1:Int) (p2:List ByteArray):Option ((Int × (List ByteArray)) ⊕ ((List ByteArray))) :=
 if decide (p1 < (a0.Cities.length:Int)) = true then
  (at? a0.Cities p1).bind fun (x3:aX) =>
  if (p2.length + 1) * 16 <= 140737488355328 then
   some (.inl (IntKind.wrap .i64 (p1 + 1),p2 ++ [x3.Name]))
  else none
 else
  some (.inr (p2))
def wJ (a0:aB) (p1:Int) (p2:List ByteArray):Option ((List ByteArray)) :=
 eJ (fun (w:Int × (List ByteArray))=>jI a0 w.1 w.2) (p1,p2)
def jF (a0:aB) (r5:(List ByteArray)) (p6:Int) (p7:List ByteArray):Option ((Int × (List ByteArray)) ⊕ ((List ByteArray))) :=
 if decide (p6 < (a0.Firms.length:Int)) = true then
  (at? a0.Firms p6).bind fun (x8:bB) =>
  if (p7.length + 1) * 16 <= 140737488355328 then
   some (.inl (IntKind.wrap .i64 (p6 + 1),p7 ++ [x8.Name]))
  else none
 else
  some (.inr (p7))
def wB (a0:aB) (r5:(List ByteArray)) (p6:Int) (p7:List ByteArray):Option ((List ByteArray)) :=
 eJ (fun (w:Int × (List ByteArray))=>jF a0 r5 w.1 w.2) (p6,p7)
def i6 (a0:aB) (r10 r5:(List ByteArray)) (p11:Int) (p12:List ByteArray):Option ((Int × (List ByteArray)) ⊕ ((List ByteArray))) :=
 if decide (p11 < (a0.Orders.length:Int)) = true then
  (at? a0.Orders p11).bind fun (x13:aJ) =>
  if (p12.length + 1) * 16 <= 140737488355328 then
   some (.inl (IntKind.wrap .i64 (p11 + 1),p12 ++ [x13.Name]))
  else none
 else
  some (.inr (p12))
def wD (a0:aB) (r10 r5:(List ByteArray)) (p11:Int) (p12:List ByteArray):Option ((List ByteArray)) :=
 eJ (fun (w:Int × (List ByteArray))=>i6 a0 r10 r5 w.1 w.2) (p11,p12)
def uH (a0:aB):Option ((List ByteArray) × (List ByteArray) × (List ByteArray)) :=
 (wJ a0 0 []).bind fun (r5:(List ByteArray)) =>
 (wB a0 r5 0 []).bind fun (r10:(List ByteArray)) =>
 (wD a0 r10 r5 0 []).bind fun (r15:(List ByteArray)) =>
 some (r5,r10,r15)
def gE (a0:ByteArray) (p1 x2:Int) (p3:Bool):Option (Unit ⊕ Unit) :=
 if (!(p3)) = true then
  if (p1 == 0) = true then
   some (.inr (()))
  else
   if (x2 != 95) = true then
    if decide (x2 < 48) = true then
     some (.inr (()))
    else
     if decide (x2 > 57) = true then
      some (.inr (()))
     else
      some (.inl ())
   else
    some (.inl ())
 else
  some (.inl ())
def iG (a0:ByteArray) (p1:Int):Option ((Int) ⊕ (Unit ⊕ Unit)) :=
 if decide (p1 < ((rH a0).length:Int)) = true then
  (at? (rH a0) p1).bind fun (x2:Int) =>
  if decide (x2 ≥ 97) = true then
   if decide (x2 <= 122) = true then
    (gE a0 p1 x2 true).bind fun (r4:Unit ⊕ Unit)=>Sum.elim (fun z5 =>
    some (.inl (IntKind.wrap .i64 (p1 + 1)))) (fun z6 =>
    some (.inr (.inr (())))) r4
   else
    if decide (x2 ≥ 65) = true then
     (gE a0 p1 x2 (decide (x2 <= 90))).bind fun (r7:Unit ⊕ Unit)=>Sum.elim (fun z8 =>
     some (.inl (IntKind.wrap .i64 (p1 + 1)))) (fun z9 =>
     some (.inr (.inr (())))) r7
    else
     (gE a0 p1 x2 false).bind fun (r10:Unit ⊕ Unit)=>Sum.elim (fun z11 =>
     some (.inl (IntKind.wrap .i64 (p1 + 1)))) (fun z12 =>
     some (.inr (.inr (())))) r10
  else
   if decide (x2 ≥ 65) = true then
    (gE a0 p1 x2 (decide (x2 <= 90))).bind fun (r13:Unit ⊕ Unit)=>Sum.elim (fun z14 =>
    some (.inl (IntKind.wrap .i64 (p1 + 1)))) (fun z15 =>
    some (.inr (.inr (())))) r13
   else
    (gE a0 p1 x2 false).bind fun (r16:Unit ⊕ Unit)=>Sum.elim (fun z17 =>
    some (.inl (IntKind.wrap .i64 (p1 + 1)))) (fun z18 =>
    some (.inr (.inr (())))) r16
 else
  some (.inr (.inl ()))
def uC (a0:ByteArray) (p1:Int):Option (Unit ⊕ Unit) :=
 eJ (fun (w:Int)=>iG a0 w) p1
def rU (a0:ByteArray):Option (Bool) :=
 if (a0.toList == ByteArray.empty.toList) = true then
  some false
 else
  if decide ((a0.size:Int) > 20) = true then
   some false
  else
   (uC a0 0).bind fun (r19:Unit ⊕ Unit)=>Sum.elim (fun z20 =>
   some true) (fun z21 =>
   some false) r19
def cC (a0:List ByteArray) (a1:ByteArray) (p1:Int):Option ((Int) ⊕ (Unit ⊕ Int)) :=
 if decide (p1 < (a0.length:Int)) = true then
  (at? a0 p1).bind fun (x2:ByteArray) =>
  if (a1.toList == x2.toList) = true then
   some (.inr (.inr (p1)))
  else
   some (.inl (IntKind.wrap .i64 (p1 + 1)))
 else
  some (.inr (.inl ()))
def gH (a0:List ByteArray) (a1:ByteArray) (p1:Int):Option (Unit ⊕ Int) :=
 eJ (fun (w:Int)=>cC a0 a1 w) p1
def dS (a0:List ByteArray) (a1:ByteArray):Option (Int) :=
 (gH a0 a1 0).bind fun (r4:Unit ⊕ Int)=>Sum.elim (fun z5 =>
 some (-1)) (fun z6 =>
 some z6) r4
def dD (a0:List ByteArray) (a1:ByteArray):Option (Bool) :=
 (dS a0 a1).bind fun (r1:Int) =>
 some (decide (r1 ≥ 0))
def kS (a0:List ByteArray) (a1:Int):Option (Int) :=
 (at? a0 a1).bind fun (x1:ByteArray) =>
 (rU x1).bind fun (r2:Bool) =>
 if (!(r2)) = true then
  some 2
 else
  if jL a0.length 0 a1 then
   (at? a0 a1).bind fun (x3:ByteArray) =>
   (dD (iI a0 0 a1) x3).bind fun (r4:Bool) =>
   if r4 = true then
    some 5
   else
    some 0
  else none
def tJ (a0:Int):Option (Bool) :=
 some true
def lS (a0:List ByteArray) (p1:Int):Option ((Int) ⊕ (Unit ⊕ Int)) :=
 if decide (p1 < (a0.length:Int)) = true then
  (kS a0 p1).bind fun (r2:Int) =>
  if (r2 != 0) = true then
   some (.inr (.inr (r2)))
  else
   (tJ p1).bind fun (r3:Bool) =>
   if (!(r3)) = true then
    some (.inr (.inr (1)))
   else
    some (.inl (IntKind.wrap .i64 (p1 + 1)))
 else
  some (.inr (.inl ()))
def AG (a0:List ByteArray) (p1:Int):Option (Unit ⊕ Int) :=
 eJ (fun (w:Int)=>lS a0 w) p1
def pG (a0:List ByteArray) (a1:Int):Option (Int) :=
 if decide ((a0.length:Int) > a1) = true then
  some 6
 else
  (AG a0 0).bind fun (r5:Unit ⊕ Int)=>Sum.elim (fun z6 =>
  some 0) (fun z7 =>
  some z7) r5
def gG (a0 a1:Int):Option (Bool) :=
 if decide (a0 ≥ 0) = true then
  some (decide (a0 < a1))
 else
  some false
def iH (a0:List Int) (a1 a2 p1:Int):Option ((Int) ⊕ (Unit ⊕ Unit)) :=
 if decide (p1 < (a0.length:Int)) = true then
  (at? a0 p1).bind fun (x2:Int) =>
  if decide (x2 < a1) = true then
   some (.inr (.inr (())))
  else
   if decide (x2 > a2) = true then
    some (.inr (.inr (())))
   else
    if decide (p1 > 0) = true then
     (at? a0 (IntKind.wrap .i64 (p1 - 1))).bind fun (x3:Int) =>
     if decide (x2 <= x3) = true then
      some (.inr (.inr (())))
     else
      some (.inl (IntKind.wrap .i64 (p1 + 1)))
    else
     some (.inl (IntKind.wrap .i64 (p1 + 1)))
 else
  some (.inr (.inl ()))
def uG (a0:List Int) (a1 a2 p1:Int):Option (Unit ⊕ Unit) :=
 eJ (fun (w:Int)=>iH a0 a1 a2 w) p1
def iY (a0:List Int) (a1 a2:Int):Option (Bool) :=
 (uG a0 a1 a2 0).bind fun (r4:Unit ⊕ Unit)=>Sum.elim (fun z5 =>
 some true) (fun z6 =>
 some false) r4
def kJ (a0:aB) (a1:aX) (p1:Int):Option ((Int) ⊕ (Unit ⊕ Unit)) :=
 if decide (p1 < (a1.Feasts.length:Int)) = true then
  (at? a1.Feasts p1).bind fun (x2:Int) =>
  if decide ((x2.tmod 100) < 1) = true then
   some (.inr (.inr (())))
  else
   if decide ((x2.tmod 100) > 31) = true then
    some (.inr (.inr (())))
   else
    some (.inl (IntKind.wrap .i64 (p1 + 1)))
 else
  some (.inr (.inl ()))
def yP (a0:aB) (a1:aX) (p1:Int):Option (Unit ⊕ Unit) :=
 eJ (fun (w:Int)=>kJ a0 a1 w) p1
def xU (a0:aB) (a1:aX):Option (Bool) :=
 (yP a0 a1 0).bind fun (r3:Unit ⊕ Unit)=>Sum.elim (fun z4 =>
 if decide ((a1.Feasts.length:Int) > 60) = true then
   some false
  else
   if decide ((a1.Shut.length:Int) > 200) = true then
    some false
   else
    (gG a1.Order (a0.Orders.length:Int)).bind fun (r6:Bool) =>
    if (!(r6)) = true then
     some false
    else
     (gG a1.Currency (a0.Currencies.length:Int)).bind fun (r7:Bool) =>
     if (!(r7)) = true then
      some false
     else
      (iY a1.Rest 0 6).bind fun (r8:Bool) =>
      if r8 = true then
       (iY a1.Feasts 101 1231).bind fun (r9:Bool) =>
       if r9 = true then
        (iY a1.Shut 0 100000).bind fun (r10:Bool) =>
        some r10
       else
        some false
      else
       some false) (fun z5 =>
 some false) r3
def k9 (a0:Int) (a1:aB):Option (Bool) :=
 (at? a1.Cities a0).bind fun (x1:aX) =>
 (xU a1 x1).bind fun (r2:Bool) =>
 some r2
def lR (a0:List ByteArray) (a2:aB) (p1:Int):Option ((Int) ⊕ (Unit ⊕ Int)) :=
 if decide (p1 < (a0.length:Int)) = true then
  (kS a0 p1).bind fun (r2:Int) =>
  if (r2 != 0) = true then
   some (.inr (.inr (r2)))
  else
   (k9 p1 a2).bind fun (r3:Bool) =>
   if (!(r3)) = true then
    some (.inr (.inr (1)))
   else
    some (.inl (IntKind.wrap .i64 (p1 + 1)))
 else
  some (.inr (.inl ()))
def yQ (a0:List ByteArray) (a2:aB) (p1:Int):Option (Unit ⊕ Int) :=
 eJ (fun (w:Int)=>lR a0 a2 w) p1
def pA (a0:List ByteArray) (a1:Int) (a2:aB):Option (Int) :=
 if decide ((a0.length:Int) > a1) = true then
  some 6
 else
  (yQ a0 a2 0).bind fun (r5:Unit ⊕ Int)=>Sum.elim (fun z6 =>
  some 0) (fun z7 =>
  some z7) r5
def i5 (a0:Int) (a1:aB):Option (Bool) :=
 (at? a1.Firms a0).bind fun (x1:bB) =>
 (gG x1.City (a1.Cities.length:Int)).bind fun (r2:Bool) =>
 if r2 = true then
  (at? a1.Firms a0).bind fun (x3:bB) =>
  (gG x3.Group (a1.Groups.length:Int)).bind fun (r4:Bool) =>
  some r4
 else
  some false
def lX (a0:List ByteArray) (a2:aB) (p1:Int):Option ((Int) ⊕ (Unit ⊕ Int)) :=
 if decide (p1 < (a0.length:Int)) = true then
  (kS a0 p1).bind fun (r2:Int) =>
  if (r2 != 0) = true then
   some (.inr (.inr (r2)))
  else
   (i5 p1 a2).bind fun (r3:Bool) =>
   if (!(r3)) = true then
    some (.inr (.inr (1)))
   else
    some (.inl (IntKind.wrap .i64 (p1 + 1)))
 else
  some (.inr (.inl ()))
def yU (a0:List ByteArray) (a2:aB) (p1:Int):Option (Unit ⊕ Int) :=
 eJ (fun (w:Int)=>lX a0 a2 w) p1
def pI (a0:List ByteArray) (a1:Int) (a2:aB):Option (Int) :=
 if decide ((a0.length:Int) > a1) = true then
  some 6
 else
  (yU a0 a2 0).bind fun (r5:Unit ⊕ Int)=>Sum.elim (fun z6 =>
  some 0) (fun z7 =>
  some z7) r5
def i8 (a0:aJ) (p1:Int) (p2:List Int):Option ((Int × (List Int)) ⊕ (((List Int)) ⊕ Unit)) :=
 if decide (p1 < (a0.Choices.length:Int)) = true then
  (at? a0.Choices p1).bind fun (x3:aQ) =>
  if (p2.length + 1) * 8 <= 140737488355328 then
   (gG x3.By 5).bind fun (r4:Bool) =>
   if (!(r4)) = true then
    some (.inr (.inr (())))
   else
    some (.inl (IntKind.wrap .i64 (p1 + 1),p2 ++ [x3.Ask]))
  else none
 else
  some (.inr (.inl p2))
def wI (a0:aJ) (p1:Int) (p2:List Int):Option (((List Int)) ⊕ Unit) :=
 eJ (fun (w:Int × (List Int))=>i8 a0 w.1 w.2) (p1,p2)
def jJ (a0:aJ) (z7:(List Int)) (p9:Int) (p10:List Int):Option ((Int × (List Int)) ⊕ ((List Int))) :=
 if decide (p9 < (a0.Rules.length:Int)) = true then
  (at? a0.Rules p9).bind fun (x11:aS) =>
  if (p10.length + 1) * 8 <= 140737488355328 then
   some (.inl (IntKind.wrap .i64 (p9 + 1),p10 ++ [x11.Ask]))
  else none
 else
  some (.inr (p10))
def v9 (a0:aJ) (z7:(List Int)) (p9:Int) (p10:List Int):Option ((List Int)) :=
 eJ (fun (w:Int × (List Int))=>jJ a0 z7 w.1 w.2) (p9,p10)
def tV (a0:aJ):Option (Bool) :=
 (wI a0 0 []).bind fun (r6:((List Int)) ⊕ Unit)=>Sum.elim (fun z7 =>
 (v9 a0 z7 0 []).bind fun (r13:(List Int)) =>
  (iY z7 0 21).bind fun (r14:Bool) =>
  if r14 = true then
   (iY r13 0 21).bind fun (r15:Bool) =>
   some r15
  else
   some false) (fun z8 =>
 some false) r6
def kZ (a0:Int) (a1:aB):Option (Bool) :=
 (at? a1.Orders a0).bind fun (x1:aJ) =>
 (tV x1).bind fun (r2:Bool) =>
 some r2
def lW (a0:List ByteArray) (a2:aB) (p1:Int):Option ((Int) ⊕ (Unit ⊕ Int)) :=
 if decide (p1 < (a0.length:Int)) = true then
  (kS a0 p1).bind fun (r2:Int) =>
  if (r2 != 0) = true then
   some (.inr (.inr (r2)))
  else
   (kZ p1 a2).bind fun (r3:Bool) =>
   if (!(r3)) = true then
    some (.inr (.inr (1)))
   else
    some (.inl (IntKind.wrap .i64 (p1 + 1)))
 else
  some (.inr (.inl ()))
def AM (a0:List ByteArray) (a2:aB) (p1:Int):Option (Unit ⊕ Int) :=
 eJ (fun (w:Int)=>lW a0 a2 w) p1
def pV (a0:List ByteArray) (a1:Int) (a2:aB):Option (Int) :=
 if decide ((a0.length:Int) > a1) = true then
  some 6
 else
  (AM a0 a2 0).bind fun (r5:Unit ⊕ Int)=>Sum.elim (fun z6 =>
  some 0) (fun z7 =>
  some z7) r5
def gV (a0:aB) (p1:Int) (x2:aR) (p5:Int):Option ((Int) ⊕ (Unit ⊕ Unit)) :=
 if decide (p5 < ((iI a0.Usances 0 p1).length:Int)) = true then
  (at? (iI a0.Usances 0 p1) p5).bind fun (x6:aR) =>
  if (x6.From == x2.From) = true then
   if (x6.To == x2.To) = true then
    some (.inr (.inr (())))
   else
    some (.inl (IntKind.wrap .i64 (p5 + 1)))
  else
   some (.inl (IntKind.wrap .i64 (p5 + 1)))
 else
  some (.inr (.inl ()))
def sG (a0:aB) (p1:Int) (x2:aR) (p5:Int):Option (Unit ⊕ Unit) :=
 eJ (fun (w:Int)=>gV a0 p1 x2 w) p5
def gN (a0:aB) (p1:Int):Option ((Int) ⊕ (Unit ⊕ Int)) :=
 if decide (p1 < (a0.Usances.length:Int)) = true then
  (at? a0.Usances p1).bind fun (x2:aR) =>
  (gG x2.From (a0.Cities.length:Int)).bind fun (r3:Bool) =>
  if (!(r3)) = true then
   some (.inr (.inr (1)))
  else
   (gG x2.To (a0.Cities.length:Int)).bind fun (r4:Bool) =>
   if (!(r4)) = true then
    some (.inr (.inr (1)))
   else
    if decide (x2.Days < 1) = true then
     some (.inr (.inr (1)))
    else
     if decide (x2.Days > 20000) = true then
      some (.inr (.inr (1)))
     else
      if jL a0.Usances.length 0 p1 then
       (sG a0 p1 x2 0).bind fun (r7:Unit ⊕ Unit)=>Sum.elim (fun z8 =>
       some (.inl (IntKind.wrap .i64 (p1 + 1)))) (fun z9 =>
       some (.inr (.inr (5)))) r7
      else none
 else
  some (.inr (.inl ()))
def sQ (a0:aB) (p1:Int):Option (Unit ⊕ Int) :=
 eJ (fun (w:Int)=>gN a0 w) p1
def pM (a0:aB):Option (Int) :=
 if decide ((a0.Usances.length:Int) > 100) = true then
  some 6
 else
  (sQ a0 0).bind fun (r11:Unit ⊕ Int)=>Sum.elim (fun z12 =>
  some 0) (fun z13 =>
  some z13) r11
def kL (a0:aB) (p1:Int):Option ((Int) ⊕ (Unit ⊕ Unit)) :=
 if decide (p1 < (a0.Rates.length:Int)) = true then
  (at? a0.Rates p1).bind fun (x2:bA) =>
  (gG x2.From (a0.Currencies.length:Int)).bind fun (r3:Bool) =>
  if (!(r3)) = true then
   some (.inr (.inr (())))
  else
   (gG x2.To (a0.Currencies.length:Int)).bind fun (r4:Bool) =>
   if (!(r4)) = true then
    some (.inr (.inr (())))
   else
    if (x2.From == x2.To) = true then
     some (.inr (.inr (())))
    else
     (gG (IntKind.wrap .i64 (x2.Num - 1)) 1073741824).bind fun (r5:Bool) =>
     if (!(r5)) = true then
      some (.inr (.inr (())))
     else
      (gG (IntKind.wrap .i64 (x2.Den - 1)) 1073741824).bind fun (r6:Bool) =>
      if (!(r6)) = true then
       some (.inr (.inr (())))
      else
       (gG x2.Since 100001).bind fun (r7:Bool) =>
       if (!(r7)) = true then
        some (.inr (.inr (())))
       else
        some (.inl (IntKind.wrap .i64 (p1 + 1)))
 else
  some (.inr (.inl ()))
def AN (a0:aB) (p1:Int):Option (Unit ⊕ Unit) :=
 eJ (fun (w:Int)=>kL a0 w) p1
def kK (a0:aB) (p11:Int):Option ((Int) ⊕ (Unit ⊕ Unit)) :=
 if decide (p11 < (a0.Halts.length:Int)) = true then
  (at? a0.Halts p11).bind fun (x12:bD) =>
  (gG x12.Order (a0.Orders.length:Int)).bind fun (r13:Bool) =>
  if (!(r13)) = true then
   some (.inr (.inr (())))
  else
   if decide (x12.From < 0) = true then
    some (.inr (.inr (())))
   else
    if decide (x12.From > x12.To) = true then
     some (.inr (.inr (())))
    else
     if decide (x12.To > 100000) = true then
      some (.inr (.inr (())))
     else
      some (.inl (IntKind.wrap .i64 (p11 + 1)))
 else
  some (.inr (.inl ()))
def AJ (a0:aB) (p11:Int):Option (Unit ⊕ Unit) :=
 eJ (fun (w:Int)=>kK a0 w) p11
def xY (a0:aB):Option (Int) :=
 if decide ((a0.Rates.length:Int) > 100) = true then
  some 6
 else
  (AN a0 0).bind fun (r8:Unit ⊕ Unit)=>Sum.elim (fun z9 =>
  if decide ((a0.Halts.length:Int) > 20) = true then
    some 6
   else
    (AJ a0 0).bind fun (r14:Unit ⊕ Unit)=>Sum.elim (fun z15 =>
    some 0) (fun z16 =>
    some 1) r14) (fun z10 =>
  some 1) r8
def jH (a0:aB) (r1:(List ByteArray) × (List ByteArray) × (List ByteArray)) (p4:Int):Option ((Int) ⊕ (Unit ⊕ Unit)) :=
 if decide (p4 < (a0.Groups.length:Int)) = true then
  (at? a0.Groups p4).bind fun (x5:aZ) =>
  (gG x5.Grade 10).bind fun (r6:Bool) =>
  if (!(r6)) = true then
   some (.inr (.inr (())))
  else
   some (.inl (IntKind.wrap .i64 (p4 + 1)))
 else
  some (.inr (.inl ()))
def wA (a0:aB) (r1:(List ByteArray) × (List ByteArray) × (List ByteArray)) (p4:Int):Option (Unit ⊕ Unit) :=
 eJ (fun (w:Int)=>jH a0 r1 w) p4
def nV (a0:aB):Option (Int) :=
 (uH a0).bind fun (r1:(List ByteArray) × (List ByteArray) × (List ByteArray)) =>
 (pG a0.Currencies 8).bind fun (r2:Int) =>
 if (r2 != 0) = true then
  some r2
 else
  (pA r1.1 40 a0).bind fun (r3:Int) =>
  if (r3 != 0) = true then
   some r3
  else
   if decide ((a0.Groups.length:Int) > 20) = true then
    some 6
   else
    (wA a0 r1 0).bind fun (r7:Unit ⊕ Unit)=>Sum.elim (fun z8 =>
    (pI r1.2.1 200 a0).bind fun (r10:Int) =>
     if (r10 != 0) = true then
      some r10
     else
      (pV r1.2.2 20 a0).bind fun (r11:Int) =>
      if (r11 != 0) = true then
       some r11
      else
       (pM a0).bind fun (r12:Int) =>
       if (r12 != 0) = true then
        some r12
       else
        (xY a0).bind fun (r13:Int) =>
        some r13) (fun z9 =>
    some 1) r7
def iK (a0:aJ) (a1 p1:Int):Option ((Int) ⊕ (Unit ⊕ (Int × Bool))) :=
 if decide (p1 < (a0.Choices.length:Int)) = true then
  (at? a0.Choices p1).bind fun (x2:aQ) =>
  if (x2.Ask == a1) = true then
   if (x2.By != 0) = true then
    some (.inr (.inr ((x2.By,x2.Whole))))
   else
    some (.inl (IntKind.wrap .i64 (p1 + 1)))
  else
   some (.inl (IntKind.wrap .i64 (p1 + 1)))
 else
  some (.inr (.inl ()))
def uB (a0:aJ) (a1 p1:Int):Option (Unit ⊕ (Int × Bool)) :=
 eJ (fun (w:Int)=>iK a0 a1 w) p1
def mI (a0:aJ) (a1:Int):Option (Int × Bool) :=
 (uB a0 a1 0).bind fun (r5:Unit ⊕ (Int × Bool))=>Sum.elim (fun z6 =>
 some (0,false)) (fun z7 =>
 some (z7.1,z7.2)) r5
def aL (a0:List Int):Option ((List Int)):=if a0.length * 8 <= 140737488355328 then some a0 else none
def nS (a0:aS) (a1:Int):Option (Bool) :=
 some (a0.Ask == a1)
def bG (a0:List aS) (a1 p1:Int):Option ((Int) ⊕ (Unit ⊕ Int)) :=
 if decide (p1 < (a0.length:Int)) = true then
  (at? a0 p1).bind fun (x2:aS) =>
  (nS x2 a1).bind fun (r3:Bool) =>
  if r3 = true then
   some (.inr (.inr (p1)))
  else
   some (.inl (IntKind.wrap .i64 (p1 + 1)))
 else
  some (.inr (.inl ()))
def dH (a0:List aS) (a1 p1:Int):Option (Unit ⊕ Int) :=
 eJ (fun (w:Int)=>bG a0 a1 w) p1
def cJ (a0:List aS) (a1:Int):Option (Int) :=
 (dH a0 a1 0).bind fun (r5:Unit ⊕ Int)=>Sum.elim (fun z6 =>
 some (-1)) (fun z7 =>
 some z7) r5
def cD (a0:List aS) (a1:Int):Option (Bool) :=
 (cJ a0 a1).bind fun (r1:Int) =>
 some (decide (r1 ≥ 0))
def eO (a0:aJ) (a1:Int):Option (Bool) :=
 (cD a0.Rules a1).bind fun (r1:Bool) =>
 some r1
def dK (a0:List Int) (a1 p1:Int):Option ((Int) ⊕ (Unit ⊕ Int)) :=
 if decide (p1 < (a0.length:Int)) = true then
  (at? a0 p1).bind fun (x2:Int) =>
  if (a1 == x2) = true then
   some (.inr (.inr (p1)))
  else
   some (.inl (IntKind.wrap .i64 (p1 + 1)))
 else
  some (.inr (.inl ()))
def kM (a0:List Int) (a1 p1:Int):Option (Unit ⊕ Int) :=
 eJ (fun (w:Int)=>dK a0 a1 w) p1
def j8 (a0:List Int) (a1:Int):Option (Int) :=
 (kM a0 a1 0).bind fun (r4:Unit ⊕ Int)=>Sum.elim (fun z5 =>
 some (-1)) (fun z6 =>
 some z6) r4
def b6 (a0:List Int) (a1:Int):Option (Bool) :=
 (j8 a0 a1).bind fun (r1:Int) =>
 some (decide (r1 ≥ 0))
def mX (a0:Int):Option (Bool) :=
 some (a0 != a0)
def mJ (a0 a1:Int):Option (Int) :=
 (mX a0).bind fun (r1:Bool) =>
 (mX a1).bind fun (r2:Bool) =>
 if r1 = true then
  if r2 = true then
   some 0
  else
   some (-1)
 else
  if r2 = true then
   some 1
  else
   if decide (a0 < a1) = true then
    some (-1)
   else
    if decide (a0 > a1) = true then
     some 1
    else
     some 0
def bT (a0 a1:List Int) (p1:Int):Option ((Int) ⊕ (Unit ⊕ Int)) :=
 if decide (p1 < (a0.length:Int)) = true then
  (at? a0 p1).bind fun (x2:Int) =>
  if decide (p1 ≥ (a1.length:Int)) = true then
   some (.inr (.inr (1)))
  else
   (at? a1 p1).bind fun (x3:Int) =>
   (mJ x2 x3).bind fun (r4:Int) =>
   if (r4 != 0) = true then
    some (.inr (.inr (r4)))
   else
    some (.inl (IntKind.wrap .i64 (p1 + 1)))
 else
  some (.inr (.inl ()))
def i7 (a0 a1:List Int) (p1:Int):Option (Unit ⊕ Int) :=
 eJ (fun (w:Int)=>bT a0 a1 w) p1
def eG (a0 a1:List Int):Option (Int) :=
 (i7 a0 a1 0).bind fun (r6:Unit ⊕ Int)=>Sum.elim (fun z7 =>
 if decide ((a0.length:Int) < (a1.length:Int)) = true then
   some (-1)
  else
   some 0) (fun z8 =>
 some z8) r6
def bJ (a0 a1:aA):Option (Bool) :=
 if ((a0.Path.length:Int) != (a1.Path.length:Int)) = true then
  some (decide ((a0.Path.length:Int) < (a1.Path.length:Int)))
 else
  (eG a0.Path a1.Path).bind fun (r1:Int) =>
  if (r1 != 0) = true then
   some (decide (r1 < 0))
  else
   (eG a0.Places a1.Places).bind fun (r2:Int) =>
   some (decide (r2 < 0))
def rI (a1 a2:Int) (r4 r5:(List Int)) (p9:Int) (p10:List Int):Option ((Int × (List Int)) ⊕ ((List Int))) :=
 if decide (p9 < (r4.length:Int)) = true then
  if 0 <= p9 ∧ p9.toNat < p10.length then
   (p10[p9.toNat]?).bind fun (x11:Int) =>
   if 0 <= p9 ∧ p9.toNat < p10.length then
    (p10[p9.toNat]?).bind fun (x12:Int) =>
    some (.inl (IntKind.wrap .i64 (p9 + 1),p10.set p9.toNat (if x11 > 0 then x11 else 0)))
   else none
  else none
 else
  some (.inr (p10))
def pC (a1 a2:Int) (r4 r5:(List Int)) (p9:Int) (p10:List Int):Option ((List Int)) :=
 eJ (fun (w:Int × (List Int))=>rI a1 a2 r4 r5 w.1 w.2) (p9,p10)
def rF (a0:aB) (a1 a2 p16:Int) (p17 p18:Option aA) (p19 p20:List Int) (r23 r24:(List Int)) (r3:Int × Bool) (x1 x15 p28:Int) (p29:List Int):Option ((Int × (List Int)) ⊕ ((List Int))) :=
 if decide (p28 < (r23.length:Int)) = true then
  if 0 <= p28 ∧ p28.toNat < p29.length then
   (p29[p28.toNat]?).bind fun (x30:Int) =>
   if 0 <= p28 ∧ p28.toNat < p29.length then
    (p29[p28.toNat]?).bind fun (x31:Int) =>
    some (.inl (IntKind.wrap .i64 (p28 + 1),p29.set p28.toNat (if x30 > 0 then x30 else 0)))
   else none
  else none
 else
  some (.inr (p29))
def oZ (a0:aB) (a1 a2 p16:Int) (p17 p18:Option aA) (p19 p20:List Int) (r23 r24:(List Int)) (r3:Int × Bool) (x1 x15 p28:Int) (p29:List Int):Option ((List Int)) :=
 eJ (fun (w:Int × (List Int))=>rF a0 a1 a2 p16 p17 p18 p19 p20 r23 r24 r3 x1 x15 w.1 w.2) (p28,p29)
def rL (a0:aB) (a1 a2 p16:Int) (p17 p18:Option aA) (p19 p20:List Int) (r3:Int × Bool) (r40 r41:(List Int)) (x1 x15 p45:Int) (p46:List Int):Option ((Int × (List Int)) ⊕ ((List Int))) :=
 if decide (p45 < (r40.length:Int)) = true then
  if 0 <= p45 ∧ p45.toNat < p46.length then
   (p46[p45.toNat]?).bind fun (x47:Int) =>
   if 0 <= p45 ∧ p45.toNat < p46.length then
    (p46[p45.toNat]?).bind fun (x48:Int) =>
    some (.inl (IntKind.wrap .i64 (p45 + 1),p46.set p45.toNat (if x47 > 0 then x47 else 0)))
   else none
  else none
 else
  some (.inr (p46))
def o9 (a0:aB) (a1 a2 p16:Int) (p17 p18:Option aA) (p19 p20:List Int) (r3:Int × Bool) (r40 r41:(List Int)) (x1 x15 p45:Int) (p46:List Int):Option ((List Int)) :=
 eJ (fun (w:Int × (List Int))=>rL a0 a1 a2 p16 p17 p18 p19 p20 r3 r40 r41 x1 x15 w.1 w.2) (p45,p46)
def qN (a0:aB) (a1 a2 p16 p54:Int) (p55 p56:Option aA) (p57 p58:List Int) (r3 r39:Int × Bool) (r61 r62:(List Int)) (x1 x15 x37 x53 p66:Int) (p67:List Int):Option ((Int × (List Int)) ⊕ ((List Int))) :=
 if decide (p66 < (r61.length:Int)) = true then
  if 0 <= p66 ∧ p66.toNat < p67.length then
   (p67[p66.toNat]?).bind fun (x68:Int) =>
   if 0 <= p66 ∧ p66.toNat < p67.length then
    (p67[p66.toNat]?).bind fun (x69:Int) =>
    some (.inl (IntKind.wrap .i64 (p66 + 1),p67.set p66.toNat (if x68 > 0 then x68 else 0)))
   else none
  else none
 else
  some (.inr (p67))
def pB (a0:aB) (a1 a2 p16 p54:Int) (p55 p56:Option aA) (p57 p58:List Int) (r3 r39:Int × Bool) (r61 r62:(List Int)) (x1 x15 x37 x53 p66:Int) (p67:List Int):Option ((List Int)) :=
 eJ (fun (w:Int × (List Int))=>qN a0 a1 a2 p16 p54 p55 p56 p57 p58 r3 r39 r61 r62 x1 x15 x37 x53 w.1 w.2) (p66,p67)
def qW (a0:aB) (a1 a2 p16 p54:Int) (p55 p56:Option aA) (p57 p58:List Int) (r3 r39:Int × Bool) (r78 r79:(List Int)) (x1 x15 x37 x53 p83:Int) (p84:List Int):Option ((Int × (List Int)) ⊕ ((List Int))) :=
 if decide (p83 < (r78.length:Int)) = true then
  if 0 <= p83 ∧ p83.toNat < p84.length then
   (p84[p83.toNat]?).bind fun (x85:Int) =>
   if 0 <= p83 ∧ p83.toNat < p84.length then
    (p84[p83.toNat]?).bind fun (x86:Int) =>
    some (.inl (IntKind.wrap .i64 (p83 + 1),p84.set p83.toNat (if x85 > 0 then x85 else 0)))
   else none
  else none
 else
  some (.inr (p84))
def pS (a0:aB) (a1 a2 p16 p54:Int) (p55 p56:Option aA) (p57 p58:List Int) (r3 r39:Int × Bool) (r78 r79:(List Int)) (x1 x15 x37 x53 p83:Int) (p84:List Int):Option ((List Int)) :=
 eJ (fun (w:Int × (List Int))=>qW a0 a1 a2 p16 p54 p55 p56 p57 p58 r3 r39 r78 r79 x1 x15 x37 x53 w.1 w.2) (p83,p84)
def qS (a0:aB) (a1 a2 p16 p54 p92:Int) (p93 p94:Option aA) (p95 p96:List Int) (r100:(List Int)) (r3 r39 r77:Int × Bool) (r99:(List Int)) (x1 x15 x37 x53 x75 x91 p104:Int) (p105:List Int):Option ((Int × (List Int)) ⊕ ((List Int))) :=
 if decide (p104 < (r99.length:Int)) = true then
  if 0 <= p104 ∧ p104.toNat < p105.length then
   (p105[p104.toNat]?).bind fun (x106:Int) =>
   if 0 <= p104 ∧ p104.toNat < p105.length then
    (p105[p104.toNat]?).bind fun (x107:Int) =>
    some (.inl (IntKind.wrap .i64 (p104 + 1),p105.set p104.toNat (if x106 > 0 then x106 else 0)))
   else none
  else none
 else
  some (.inr (p105))
def pT (a0:aB) (a1 a2 p16 p54 p92:Int) (p93 p94:Option aA) (p95 p96:List Int) (r100:(List Int)) (r3 r39 r77:Int × Bool) (r99:(List Int)) (x1 x15 x37 x53 x75 x91 p104:Int) (p105:List Int):Option ((List Int)) :=
 eJ (fun (w:Int × (List Int))=>qS a0 a1 a2 p16 p54 p92 p93 p94 p95 p96 r100 r3 r39 r77 r99 x1 x15 x37 x53 x75 x91 w.1 w.2) (p104,p105)
def qZ (a0:aB) (a1 a2:Int) (p117 p118:List Int) (p16 p54 p92:Int) (p93 p94:Option aA) (p95 p96:List Int) (r3 r39 r77:Int × Bool) (x1 x15 x37 x53 x75 x91 p122:Int) (p123:List Int):Option ((Int × (List Int)) ⊕ ((List Int))) :=
 if decide (p122 < (p117.length:Int)) = true then
  if 0 <= p122 ∧ p122.toNat < p123.length then
   (p123[p122.toNat]?).bind fun (x124:Int) =>
   if 0 <= p122 ∧ p122.toNat < p123.length then
    (p123[p122.toNat]?).bind fun (x125:Int) =>
    some (.inl (IntKind.wrap .i64 (p122 + 1),p123.set p122.toNat (if x124 > 0 then x124 else 0)))
   else none
  else none
 else
  some (.inr (p123))
def pJ (a0:aB) (a1 a2:Int) (p117 p118:List Int) (p16 p54 p92:Int) (p93 p94:Option aA) (p95 p96:List Int) (r3 r39 r77:Int × Bool) (x1 x15 x37 x53 x75 x91 p122:Int) (p123:List Int):Option ((List Int)) :=
 eJ (fun (w:Int × (List Int))=>qZ a0 a1 a2 p117 p118 p16 p54 p92 p93 p94 p95 p96 r3 r39 r77 x1 x15 x37 x53 x75 x91 w.1 w.2) (p122,p123)
def uD (a0:aB) (a1 a2:Int) (p117 p118:List Int) (p16 p54 p92:Int) (p93 p94:Option aA) (p95 p96:List Int) (r3 r39 r77:Int × Bool) (x1 x15 x37 x53 x75 x91:Int):Option ((Option aA)) :=
 (pJ a0 a1 a2 p117 p118 p16 p54 p92 p93 p94 p95 p96 r3 r39 r77 x1 x15 x37 x53 x75 x91 0 p117).bind fun (r127:(List Int)) =>
 if p94.isNone = true then
  some (some (aA.mk 1 a1 a2 r127 p118))
 else
  (p94).bind fun (x128:aA) =>
  (bJ (aA.mk 1 a1 a2 r127 p118) x128).bind fun (r129:Bool) =>
  if r129 = true then
   some (some (aA.mk 1 a1 a2 r127 p118))
  else
   some (p94)
def qP (a0:aB) (a1 a2:Int) (p117 p118:List Int) (p16 p54 p92:Int) (p93 p94:Option aA) (p95 p96:List Int) (r3 r39 r77:Int × Bool) (x1 x15 x37 x53 x75 x91 p132:Int) (p133:List Int):Option ((Int × (List Int)) ⊕ ((List Int))) :=
 if decide (p132 < (p117.length:Int)) = true then
  if 0 <= p132 ∧ p132.toNat < p133.length then
   (p133[p132.toNat]?).bind fun (x134:Int) =>
   if 0 <= p132 ∧ p132.toNat < p133.length then
    (p133[p132.toNat]?).bind fun (x135:Int) =>
    some (.inl (IntKind.wrap .i64 (p132 + 1),p133.set p132.toNat (if x134 > 0 then x134 else 0)))
   else none
  else none
 else
  some (.inr (p133))
def pK (a0:aB) (a1 a2:Int) (p117 p118:List Int) (p16 p54 p92:Int) (p93 p94:Option aA) (p95 p96:List Int) (r3 r39 r77:Int × Bool) (x1 x15 x37 x53 x75 x91 p132:Int) (p133:List Int):Option ((List Int)) :=
 eJ (fun (w:Int × (List Int))=>qP a0 a1 a2 p117 p118 p16 p54 p92 p93 p94 p95 p96 r3 r39 r77 x1 x15 x37 x53 x75 x91 w.1 w.2) (p132,p133)
def sT (a0:aB) (a1 a2:Int) (p117 p118:List Int) (p16 p54 p92:Int) (p93 p94:Option aA) (p95 p96:List Int) (r3 r39 r77:Int × Bool) (x1 x15 x37 x53 x75 x91:Int):Option ((Option aA)) :=
 (pK a0 a1 a2 p117 p118 p16 p54 p92 p93 p94 p95 p96 r3 r39 r77 x1 x15 x37 x53 x75 x91 0 p117).bind fun (r137:(List Int)) =>
 if p93.isNone = true then
  some (some (aA.mk 0 a1 a2 r137 p118))
 else
  (p93).bind fun (x138:aA) =>
  (bJ (aA.mk 0 a1 a2 r137 p118) x138).bind fun (r139:Bool) =>
  if r139 = true then
   some (some (aA.mk 0 a1 a2 r137 p118))
  else
   some (p93)
def fP (a0:aB) (a1 a2 p16 p54 p92:Int) (p93 p94:Option aA) (p95 p96:List Int) (r3 r39 r77:Int × Bool) (x1 x15 x37 x53 x75 x91:Int) (p116:Bool) (p117 p118:List Int):Option (((Option aA) × (Option aA)) ⊕ Unit) :=
 if p116 = true then
  (uD a0 a1 a2 p117 p118 p16 p54 p92 p93 p94 p95 p96 r3 r39 r77 x1 x15 x37 x53 x75 x91).bind fun (r131:(Option aA)) =>
  some (.inl (p93,r131))
 else
  if 0 <= (IntKind.wrap .i64 (((p96 ++ [p92]).length:Int) - 1)) ∧ (IntKind.wrap .i64 (((p96 ++ [p92]).length:Int) - 1)).toNat < (p96 ++ [p92]).length then
   ((p96 ++ [p92])[(IntKind.wrap .i64 (((p96 ++ [p92]).length:Int) - 1)).toNat]?).bind fun (x119:Int) =>
   (at? a0.Orders x119).bind fun (x120:aJ) =>
   (eO x120 a2).bind fun (r121:Bool) =>
   if r121 = true then
    some (.inr (()))
   else
    (sT a0 a1 a2 p117 p118 p16 p54 p92 p93 p94 p95 p96 r3 r39 r77 x1 x15 x37 x53 x75 x91).bind fun (r141:(Option aA)) =>
    some (.inl (r141,p94))
  else none
def kY (a0:aB) (a1 a2 p16 p54 p92:Int) (p93 p94:Option aA) (p95 p96:List Int) (r3 r39 r77:Int × Bool) (x1 x15 x37 x53 x75 x91:Int):Option ((Option aA) × (Option aA)) :=
 if r77.2 = true then
  (at? a0.Orders p92).bind fun (x113:aJ) =>
  (aL (p95.set r77.1.toNat p92)).bind fun (r114:(List Int)) =>
  (aL (p96 ++ [p92])).bind fun (r115:(List Int)) =>
  (fP a0 a1 a2 p16 p54 p92 p93 p94 p95 p96 r3 r39 r77 x1 x15 x37 x53 x75 x91 (!(x113.Accepts)) r114 r115).bind fun (r144:((Option aA) × (Option aA)) ⊕ Unit)=>Sum.elim (fun z145 =>
  some ((z145.1,z145.2))) (fun z146 =>
  some ((p93,p94))) r144
 else
  (aL (p95.set r77.1.toNat p92)).bind fun (r147:(List Int)) =>
  (aL (p96 ++ [p92])).bind fun (r148:(List Int)) =>
  (fP a0 a1 a2 p16 p54 p92 p93 p94 p95 p96 r3 r39 r77 x1 x15 x37 x53 x75 x91 false r147 r148).bind fun (r149:((Option aA) × (Option aA)) ⊕ Unit)=>Sum.elim (fun z150 =>
  some ((z150.1,z150.2))) (fun z151 =>
  some ((p93,p94))) r149
def lB (a0:aB) (a1 a2 p16 p54 p92:Int) (p95 p96:List Int) (r3 r39 r77:Int × Bool) (x1 x15 x37 x53 x75 x91:Int) (p156 p157:Option aA):Option (Unit) :=
 if 0 <= (IntKind.wrap .i64 (((p96 ++ [p92]).length:Int) - 1)) ∧ (IntKind.wrap .i64 (((p96 ++ [p92]).length:Int) - 1)).toNat <= (p96 ++ [p92]).length then
  some (())
 else none
def dQ (a0:aB) (a1 a2 p16 p54 p92:Int) (p95:List Int) (r3 r39 r77:Int × Bool) (x1 x15 x37 x53 x75 x91:Int) (p160 p161:Option aA) (p162:List Int):Option ((List Int)) :=
 if (x91 == (-1)) = true then
  if 0 <= r77.1 ∧ r77.1.toNat < (p95.set r77.1.toNat p92).length then
   ((p95.set r77.1.toNat p92)[r77.1.toNat]?).bind fun (x163:Int) =>
   some ((p95.set r77.1.toNat p92).set r77.1.toNat (-1))
  else none
 else
  some (p95.set r77.1.toNat p92)
def lK (a0:aB) (a1 a2 p16 p54 p92:Int) (p93 p94:Option aA) (p95 p96:List Int) (r3 r39 r77:Int × Bool) (x1 x15 x37 x53 x75 x91:Int):Option ((Option aA) × (Option aA) × (List Int) × (List Int)) :=
 if 0 <= r77.1 ∧ r77.1.toNat < p95.length then
  (p95[r77.1.toNat]?).bind fun (x98:Int) =>
  if (p92 == x75) = true then
   (aL (p95.set r77.1.toNat p92)).bind fun (r99:(List Int)) =>
   (aL p96).bind fun (r100:(List Int)) =>
   if 0 <= (IntKind.wrap .i64 ((p96.length:Int) - 1)) ∧ (IntKind.wrap .i64 ((p96.length:Int) - 1)).toNat < p96.length then
    (p96[(IntKind.wrap .i64 ((p96.length:Int) - 1)).toNat]?).bind fun (x101:Int) =>
    (at? a0.Orders x101).bind fun (x102:aJ) =>
    (eO x102 a2).bind fun (r103:Bool) =>
    if r103 = true then
     (dQ a0 a1 a2 p16 p54 p92 p95 r3 r39 r77 x1 x15 x37 x53 x75 x91 p93 p94 p96).bind fun (r165:(List Int)) =>
     some ((p93,p94,r165,p96))
    else
     (pT a0 a1 a2 p16 p54 p92 p93 p94 p95 p96 r100 r3 r39 r77 r99 x1 x15 x37 x53 x75 x91 0 r99).bind fun (r109:(List Int)) =>
     if p93.isNone = true then
      (dQ a0 a1 a2 p16 p54 p92 p95 r3 r39 r77 x1 x15 x37 x53 x75 x91 (some (aA.mk 0 a1 a2 r109 r100)) p94 p96).bind fun (r166:(List Int)) =>
      some (((some (aA.mk 0 a1 a2 r109 r100)),p94,r166,p96))
     else
      (p93).bind fun (x110:aA) =>
      (bJ (aA.mk 0 a1 a2 r109 r100) x110).bind fun (r111:Bool) =>
      if r111 = true then
       (dQ a0 a1 a2 p16 p54 p92 p95 r3 r39 r77 x1 x15 x37 x53 x75 x91 (some (aA.mk 0 a1 a2 r109 r100)) p94 p96).bind fun (r167:(List Int)) =>
       some (((some (aA.mk 0 a1 a2 r109 r100)),p94,r167,p96))
      else
       (dQ a0 a1 a2 p16 p54 p92 p95 r3 r39 r77 x1 x15 x37 x53 x75 x91 p93 p94 p96).bind fun (r168:(List Int)) =>
       some ((p93,p94,r168,p96))
   else none
  else
   (b6 p96 p92).bind fun (r112:Bool) =>
   if (p96.length + 1) * 8 <= 140737488355328 then
    if r77.2 = true then
     if (!(r112)) = true then
      none
     else
      (kY a0 a1 a2 p16 p54 p92 p93 p94 p95 p96 r3 r39 r77 x1 x15 x37 x53 x75 x91).bind fun (r154:(Option aA) × (Option aA)) =>
      (lB a0 a1 a2 p16 p54 p92 p95 p96 r3 r39 r77 x1 x15 x37 x53 x75 x91 r154.1 r154.2).bind fun (r158:Unit) =>
      (dQ a0 a1 a2 p16 p54 p92 p95 r3 r39 r77 x1 x15 x37 x53 x75 x91 r154.1 r154.2 ((p96 ++ [p92]).take ((IntKind.wrap .i64 (((p96 ++ [p92]).length:Int) - 1)).toNat))).bind fun (r169:(List Int)) =>
      some ((r154.1,r154.2,r169,((p96 ++ [p92]).take ((IntKind.wrap .i64 (((p96 ++ [p92]).length:Int) - 1)).toNat))))
    else
     (kY a0 a1 a2 p16 p54 p92 p93 p94 p95 p96 r3 r39 r77 x1 x15 x37 x53 x75 x91).bind fun (r155:(Option aA) × (Option aA)) =>
     (lB a0 a1 a2 p16 p54 p92 p95 p96 r3 r39 r77 x1 x15 x37 x53 x75 x91 r155.1 r155.2).bind fun (r159:Unit) =>
     (dQ a0 a1 a2 p16 p54 p92 p95 r3 r39 r77 x1 x15 x37 x53 x75 x91 r155.1 r155.2 ((p96 ++ [p92]).take ((IntKind.wrap .i64 (((p96 ++ [p92]).length:Int) - 1)).toNat))).bind fun (r170:(List Int)) =>
     some ((r155.1,r155.2,r170,((p96 ++ [p92]).take ((IntKind.wrap .i64 (((p96 ++ [p92]).length:Int) - 1)).toNat))))
   else none
 else none
def gQ (a0:aB) (a1 a2 p16 p54:Int) (r3 r39 r77:Int × Bool) (x1 x15 x37 x53 x75 x91 p92:Int) (p93 p94:Option aA) (p95 p96:List Int):Option ((Int × (Option aA) × (Option aA) × (List Int) × (List Int)) ⊕ ((Option aA) × (Option aA) × (List Int) × (List Int))) :=
 if decide (p92 < (a0.Orders.length:Int)) = true then
  if (!(x91 == (-1))) = true then
   if 0 <= r77.1 ∧ r77.1.toNat < p95.length then
    (p95[r77.1.toNat]?).bind fun (x97:Int) =>
    if (x97 != p92) = true then
     some (.inl (IntKind.wrap .i64 (p92 + 1),p93,p94,p95,p96))
    else
     (lK a0 a1 a2 p16 p54 p92 p93 p94 p95 p96 r3 r39 r77 x1 x15 x37 x53 x75 x91).bind fun (r175:(Option aA) × (Option aA) × (List Int) × (List Int)) =>
     some (.inl (IntKind.wrap .i64 (p92 + 1),r175.1,r175.2.1,r175.2.2.1,r175.2.2.2))
   else none
  else
   (lK a0 a1 a2 p16 p54 p92 p93 p94 p95 p96 r3 r39 r77 x1 x15 x37 x53 x75 x91).bind fun (r176:(Option aA) × (Option aA) × (List Int) × (List Int)) =>
   some (.inl (IntKind.wrap .i64 (p92 + 1),r176.1,r176.2.1,r176.2.2.1,r176.2.2.2))
 else
  some (.inr ((p93,p94,p95,p96)))
def sD (a0:aB) (a1 a2 p16 p54:Int) (r3 r39 r77:Int × Bool) (x1 x15 x37 x53 x75 x91 p92:Int) (p93 p94:Option aA) (p95 p96:List Int):Option ((Option aA) × (Option aA) × (List Int) × (List Int)) :=
 eJ (fun (w:Int × (Option aA) × (Option aA) × (List Int) × (List Int))=>gQ a0 a1 a2 p16 p54 r3 r39 r77 x1 x15 x37 x53 x75 x91 w.1 w.2.1 w.2.2.1 w.2.2.2.1 w.2.2.2.2) (p92,p93,p94,p95,p96)
def nU (a0:aB) (a1 a2 p16 p54:Int) (p55 p56:Option aA) (p57 p58:List Int) (r3 r39:Int × Bool) (x1 x15 x37 x53:Int):Option ((Option aA) × (Option aA) × (List Int) × (List Int)) :=
 if 0 <= (IntKind.wrap .i64 (((p58 ++ [p54]).length:Int) - 1)) ∧ (IntKind.wrap .i64 (((p58 ++ [p54]).length:Int) - 1)).toNat < (p58 ++ [p54]).length then
  ((p58 ++ [p54])[(IntKind.wrap .i64 (((p58 ++ [p54]).length:Int) - 1)).toNat]?).bind fun (x75:Int) =>
  (at? a0.Orders x75).bind fun (x76:aJ) =>
  (mI x76 a2).bind fun (r77:Int × Bool) =>
  if (r77.1 == 0) = true then
   (aL (p57.set r39.1.toNat p54)).bind fun (r78:(List Int)) =>
   (aL (p58 ++ [p54])).bind fun (r79:(List Int)) =>
   if 0 <= (IntKind.wrap .i64 (((p58 ++ [p54]).length:Int) - 1)) ∧ (IntKind.wrap .i64 (((p58 ++ [p54]).length:Int) - 1)).toNat < (p58 ++ [p54]).length then
    ((p58 ++ [p54])[(IntKind.wrap .i64 (((p58 ++ [p54]).length:Int) - 1)).toNat]?).bind fun (x80:Int) =>
    (at? a0.Orders x80).bind fun (x81:aJ) =>
    (eO x81 a2).bind fun (r82:Bool) =>
    if r82 = true then
     some ((p55,p56,p57.set r39.1.toNat p54,p58 ++ [p54]))
    else
     (pS a0 a1 a2 p16 p54 p55 p56 p57 p58 r3 r39 r78 r79 x1 x15 x37 x53 0 r78).bind fun (r88:(List Int)) =>
     if p55.isNone = true then
      some ((some (aA.mk 0 a1 a2 r88 r79),p56,p57.set r39.1.toNat p54,p58 ++ [p54]))
     else
      (p55).bind fun (x89:aA) =>
      (bJ (aA.mk 0 a1 a2 r88 r79) x89).bind fun (r90:Bool) =>
      if r90 = true then
       some ((some (aA.mk 0 a1 a2 r88 r79),p56,p57.set r39.1.toNat p54,p58 ++ [p54]))
      else
       some ((p55,p56,p57.set r39.1.toNat p54,p58 ++ [p54]))
   else none
  else
   if 0 <= r77.1 ∧ r77.1.toNat < (p57.set r39.1.toNat p54).length then
    ((p57.set r39.1.toNat p54)[r77.1.toNat]?).bind fun (x91:Int) =>
    (sD a0 a1 a2 p16 p54 r3 r39 r77 x1 x15 x37 x53 x75 x91 0 p55 p56 (p57.set r39.1.toNat p54) (p58 ++ [p54])).bind fun (r181:(Option aA) × (Option aA) × (List Int) × (List Int)) =>
    some ((r181.1,r181.2.1,r181.2.2.1,r181.2.2.2))
   else none
 else none
def oK (a0:aB) (a1 a2 p16:Int) (p191 p192:List Int) (p54:Int) (p55 p56:Option aA) (p57 p58:List Int) (r3 r39:Int × Bool) (x1 x15 x37 x53 p196:Int) (p197:List Int):Option ((Int × (List Int)) ⊕ ((List Int))) :=
 if decide (p196 < (p191.length:Int)) = true then
  if 0 <= p196 ∧ p196.toNat < p197.length then
   (p197[p196.toNat]?).bind fun (x198:Int) =>
   if 0 <= p196 ∧ p196.toNat < p197.length then
    (p197[p196.toNat]?).bind fun (x199:Int) =>
    some (.inl (IntKind.wrap .i64 (p196 + 1),p197.set p196.toNat (if x198 > 0 then x198 else 0)))
   else none
  else none
 else
  some (.inr (p197))
def n9 (a0:aB) (a1 a2 p16:Int) (p191 p192:List Int) (p54:Int) (p55 p56:Option aA) (p57 p58:List Int) (r3 r39:Int × Bool) (x1 x15 x37 x53 p196:Int) (p197:List Int):Option ((List Int)) :=
 eJ (fun (w:Int × (List Int))=>oK a0 a1 a2 p16 p191 p192 p54 p55 p56 p57 p58 r3 r39 x1 x15 x37 x53 w.1 w.2) (p196,p197)
def sX (a0:aB) (a1 a2 p16:Int) (p191 p192:List Int) (p54:Int) (p55 p56:Option aA) (p57 p58:List Int) (r3 r39:Int × Bool) (x1 x15 x37 x53:Int):Option ((Option aA)) :=
 (n9 a0 a1 a2 p16 p191 p192 p54 p55 p56 p57 p58 r3 r39 x1 x15 x37 x53 0 p191).bind fun (r201:(List Int)) =>
 if p56.isNone = true then
  some (some (aA.mk 1 a1 a2 r201 p192))
 else
  (p56).bind fun (x202:aA) =>
  (bJ (aA.mk 1 a1 a2 r201 p192) x202).bind fun (r203:Bool) =>
  if r203 = true then
   some (some (aA.mk 1 a1 a2 r201 p192))
  else
   some (p56)
def oR (a0:aB) (a1 a2 p16:Int) (p191 p192:List Int) (p54:Int) (p55 p56:Option aA) (p57 p58:List Int) (r3 r39:Int × Bool) (x1 x15 x37 x53 p206:Int) (p207:List Int):Option ((Int × (List Int)) ⊕ ((List Int))) :=
 if decide (p206 < (p191.length:Int)) = true then
  if 0 <= p206 ∧ p206.toNat < p207.length then
   (p207[p206.toNat]?).bind fun (x208:Int) =>
   if 0 <= p206 ∧ p206.toNat < p207.length then
    (p207[p206.toNat]?).bind fun (x209:Int) =>
    some (.inl (IntKind.wrap .i64 (p206 + 1),p207.set p206.toNat (if x208 > 0 then x208 else 0)))
   else none
  else none
 else
  some (.inr (p207))
def nT (a0:aB) (a1 a2 p16:Int) (p191 p192:List Int) (p54:Int) (p55 p56:Option aA) (p57 p58:List Int) (r3 r39:Int × Bool) (x1 x15 x37 x53 p206:Int) (p207:List Int):Option ((List Int)) :=
 eJ (fun (w:Int × (List Int))=>oR a0 a1 a2 p16 p191 p192 p54 p55 p56 p57 p58 r3 r39 x1 x15 x37 x53 w.1 w.2) (p206,p207)
def sL (a0:aB) (a1 a2 p16:Int) (p191 p192:List Int) (p54:Int) (p55 p56:Option aA) (p57 p58:List Int) (r3 r39:Int × Bool) (x1 x15 x37 x53:Int):Option ((Option aA)) :=
 (nT a0 a1 a2 p16 p191 p192 p54 p55 p56 p57 p58 r3 r39 x1 x15 x37 x53 0 p191).bind fun (r211:(List Int)) =>
 if p55.isNone = true then
  some (some (aA.mk 0 a1 a2 r211 p192))
 else
  (p55).bind fun (x212:aA) =>
  (bJ (aA.mk 0 a1 a2 r211 p192) x212).bind fun (r213:Bool) =>
  if r213 = true then
   some (some (aA.mk 0 a1 a2 r211 p192))
  else
   some (p55)
def fN (a0:aB) (a1 a2 p16 p54:Int) (p55 p56:Option aA) (p57 p58:List Int) (r3 r39:Int × Bool) (x1 x15 x37 x53:Int) (p190:Bool) (p191 p192:List Int):Option (((Option aA) × (Option aA)) ⊕ Unit) :=
 if p190 = true then
  (sX a0 a1 a2 p16 p191 p192 p54 p55 p56 p57 p58 r3 r39 x1 x15 x37 x53).bind fun (r205:(Option aA)) =>
  some (.inl (p55,r205))
 else
  if 0 <= (IntKind.wrap .i64 (((p58 ++ [p54]).length:Int) - 1)) ∧ (IntKind.wrap .i64 (((p58 ++ [p54]).length:Int) - 1)).toNat < (p58 ++ [p54]).length then
   ((p58 ++ [p54])[(IntKind.wrap .i64 (((p58 ++ [p54]).length:Int) - 1)).toNat]?).bind fun (x193:Int) =>
   (at? a0.Orders x193).bind fun (x194:aJ) =>
   (eO x194 a2).bind fun (r195:Bool) =>
   if r195 = true then
    some (.inr (()))
   else
    (sL a0 a1 a2 p16 p191 p192 p54 p55 p56 p57 p58 r3 r39 x1 x15 x37 x53).bind fun (r215:(Option aA)) =>
    some (.inl (r215,p56))
  else none
def lF (a0:aB) (a1 a2 p16 p54:Int) (p55 p56:Option aA) (p57 p58:List Int) (r3 r39:Int × Bool) (x1 x15 x37 x53:Int):Option ((Option aA) × (Option aA)) :=
 if r39.2 = true then
  (at? a0.Orders p54).bind fun (x187:aJ) =>
  (aL (p57.set r39.1.toNat p54)).bind fun (r188:(List Int)) =>
  (aL (p58 ++ [p54])).bind fun (r189:(List Int)) =>
  (fN a0 a1 a2 p16 p54 p55 p56 p57 p58 r3 r39 x1 x15 x37 x53 (!(x187.Accepts)) r188 r189).bind fun (r218:((Option aA) × (Option aA)) ⊕ Unit)=>Sum.elim (fun z219 =>
  some ((z219.1,z219.2))) (fun z220 =>
  some ((p55,p56))) r218
 else
  (aL (p57.set r39.1.toNat p54)).bind fun (r221:(List Int)) =>
  (aL (p58 ++ [p54])).bind fun (r222:(List Int)) =>
  (fN a0 a1 a2 p16 p54 p55 p56 p57 p58 r3 r39 x1 x15 x37 x53 false r221 r222).bind fun (r223:((Option aA) × (Option aA)) ⊕ Unit)=>Sum.elim (fun z224 =>
  some ((z224.1,z224.2))) (fun z225 =>
  some ((p55,p56))) r223
def jC (a0:aB) (a1 a2 p16 p54:Int) (r3 r39:Int × Bool) (x1 x15 x37 x53:Int) (p230 p231:Option aA) (p232 p233:List Int):Option (Unit) :=
 if 0 <= (IntKind.wrap .i64 ((p233.length:Int) - 1)) ∧ (IntKind.wrap .i64 ((p233.length:Int) - 1)).toNat <= p233.length then
  some (())
 else none
def dF (a0:aB) (a1 a2 p16 p54:Int) (r3 r39:Int × Bool) (x1 x15 x37 x53:Int) (p237 p238:Option aA) (p239 p240:List Int):Option ((List Int)) :=
 if (x53 == (-1)) = true then
  if 0 <= r39.1 ∧ r39.1.toNat < p239.length then
   (p239[r39.1.toNat]?).bind fun (x241:Int) =>
   some (p239.set r39.1.toNat (-1))
  else none
 else
  some (p239)
def lH (a0:aB) (a1 a2 p16 p54:Int) (p55 p56:Option aA) (p57 p58:List Int) (r3 r39:Int × Bool) (x1 x15 x37 x53:Int):Option ((Option aA) × (Option aA) × (List Int) × (List Int)) :=
 if 0 <= r39.1 ∧ r39.1.toNat < p57.length then
  (p57[r39.1.toNat]?).bind fun (x60:Int) =>
  if (p54 == x37) = true then
   (aL (p57.set r39.1.toNat p54)).bind fun (r61:(List Int)) =>
   (aL p58).bind fun (r62:(List Int)) =>
   if 0 <= (IntKind.wrap .i64 ((p58.length:Int) - 1)) ∧ (IntKind.wrap .i64 ((p58.length:Int) - 1)).toNat < p58.length then
    (p58[(IntKind.wrap .i64 ((p58.length:Int) - 1)).toNat]?).bind fun (x63:Int) =>
    (at? a0.Orders x63).bind fun (x64:aJ) =>
    (eO x64 a2).bind fun (r65:Bool) =>
    if r65 = true then
     (dF a0 a1 a2 p16 p54 r3 r39 x1 x15 x37 x53 p55 p56 (p57.set r39.1.toNat p54) p58).bind fun (r243:(List Int)) =>
     some ((p55,p56,r243,p58))
    else
     (pB a0 a1 a2 p16 p54 p55 p56 p57 p58 r3 r39 r61 r62 x1 x15 x37 x53 0 r61).bind fun (r71:(List Int)) =>
     if p55.isNone = true then
      (dF a0 a1 a2 p16 p54 r3 r39 x1 x15 x37 x53 (some (aA.mk 0 a1 a2 r71 r62)) p56 (p57.set r39.1.toNat p54) p58).bind fun (r244:(List Int)) =>
      some (((some (aA.mk 0 a1 a2 r71 r62)),p56,r244,p58))
     else
      (p55).bind fun (x72:aA) =>
      (bJ (aA.mk 0 a1 a2 r71 r62) x72).bind fun (r73:Bool) =>
      if r73 = true then
       (dF a0 a1 a2 p16 p54 r3 r39 x1 x15 x37 x53 (some (aA.mk 0 a1 a2 r71 r62)) p56 (p57.set r39.1.toNat p54) p58).bind fun (r245:(List Int)) =>
       some (((some (aA.mk 0 a1 a2 r71 r62)),p56,r245,p58))
      else
       (dF a0 a1 a2 p16 p54 r3 r39 x1 x15 x37 x53 p55 p56 (p57.set r39.1.toNat p54) p58).bind fun (r246:(List Int)) =>
       some ((p55,p56,r246,p58))
   else none
  else
   (b6 p58 p54).bind fun (r74:Bool) =>
   if (p58.length + 1) * 8 <= 140737488355328 then
    if r39.2 = true then
     if (!(r74)) = true then
      (nU a0 a1 a2 p16 p54 p55 p56 p57 p58 r3 r39 x1 x15 x37 x53).bind fun (r186:(Option aA) × (Option aA) × (List Int) × (List Int)) =>
      (jC a0 a1 a2 p16 p54 r3 r39 x1 x15 x37 x53 r186.1 r186.2.1 r186.2.2.1 r186.2.2.2).bind fun (r234:Unit) =>
      (dF a0 a1 a2 p16 p54 r3 r39 x1 x15 x37 x53 r186.1 r186.2.1 r186.2.2.1 (r186.2.2.2.take ((IntKind.wrap .i64 ((r186.2.2.2.length:Int) - 1)).toNat))).bind fun (r247:(List Int)) =>
      some ((r186.1,r186.2.1,r247,(r186.2.2.2.take ((IntKind.wrap .i64 ((r186.2.2.2.length:Int) - 1)).toNat))))
     else
      (lF a0 a1 a2 p16 p54 p55 p56 p57 p58 r3 r39 x1 x15 x37 x53).bind fun (r228:(Option aA) × (Option aA)) =>
      (jC a0 a1 a2 p16 p54 r3 r39 x1 x15 x37 x53 r228.1 r228.2 (p57.set r39.1.toNat p54) (p58 ++ [p54])).bind fun (r235:Unit) =>
      (dF a0 a1 a2 p16 p54 r3 r39 x1 x15 x37 x53 r228.1 r228.2 (p57.set r39.1.toNat p54) ((p58 ++ [p54]).take ((IntKind.wrap .i64 (((p58 ++ [p54]).length:Int) - 1)).toNat))).bind fun (r248:(List Int)) =>
      some ((r228.1,r228.2,r248,((p58 ++ [p54]).take ((IntKind.wrap .i64 (((p58 ++ [p54]).length:Int) - 1)).toNat))))
    else
     (lF a0 a1 a2 p16 p54 p55 p56 p57 p58 r3 r39 x1 x15 x37 x53).bind fun (r229:(Option aA) × (Option aA)) =>
     (jC a0 a1 a2 p16 p54 r3 r39 x1 x15 x37 x53 r229.1 r229.2 (p57.set r39.1.toNat p54) (p58 ++ [p54])).bind fun (r236:Unit) =>
     (dF a0 a1 a2 p16 p54 r3 r39 x1 x15 x37 x53 r229.1 r229.2 (p57.set r39.1.toNat p54) ((p58 ++ [p54]).take ((IntKind.wrap .i64 (((p58 ++ [p54]).length:Int) - 1)).toNat))).bind fun (r249:(List Int)) =>
     some ((r229.1,r229.2,r249,((p58 ++ [p54]).take ((IntKind.wrap .i64 (((p58 ++ [p54]).length:Int) - 1)).toNat))))
   else none
 else none
def gP (a0:aB) (a1 a2 p16:Int) (r3 r39:Int × Bool) (x1 x15 x37 x53 p54:Int) (p55 p56:Option aA) (p57 p58:List Int):Option ((Int × (Option aA) × (Option aA) × (List Int) × (List Int)) ⊕ ((Option aA) × (Option aA) × (List Int) × (List Int))) :=
 if decide (p54 < (a0.Orders.length:Int)) = true then
  if (!(x53 == (-1))) = true then
   if 0 <= r39.1 ∧ r39.1.toNat < p57.length then
    (p57[r39.1.toNat]?).bind fun (x59:Int) =>
    if (x59 != p54) = true then
     some (.inl (IntKind.wrap .i64 (p54 + 1),p55,p56,p57,p58))
    else
     (lH a0 a1 a2 p16 p54 p55 p56 p57 p58 r3 r39 x1 x15 x37 x53).bind fun (r254:(Option aA) × (Option aA) × (List Int) × (List Int)) =>
     some (.inl (IntKind.wrap .i64 (p54 + 1),r254.1,r254.2.1,r254.2.2.1,r254.2.2.2))
   else none
  else
   (lH a0 a1 a2 p16 p54 p55 p56 p57 p58 r3 r39 x1 x15 x37 x53).bind fun (r255:(Option aA) × (Option aA) × (List Int) × (List Int)) =>
   some (.inl (IntKind.wrap .i64 (p54 + 1),r255.1,r255.2.1,r255.2.2.1,r255.2.2.2))
 else
  some (.inr ((p55,p56,p57,p58)))
def sV (a0:aB) (a1 a2 p16:Int) (r3 r39:Int × Bool) (x1 x15 x37 x53 p54:Int) (p55 p56:Option aA) (p57 p58:List Int):Option ((Option aA) × (Option aA) × (List Int) × (List Int)) :=
 eJ (fun (w:Int × (Option aA) × (Option aA) × (List Int) × (List Int))=>gP a0 a1 a2 p16 r3 r39 x1 x15 x37 x53 w.1 w.2.1 w.2.2.1 w.2.2.2.1 w.2.2.2.2) (p54,p55,p56,p57,p58)
def nW (a0:aB) (a1 a2 p16:Int) (p17 p18:Option aA) (p19 p20:List Int) (r3:Int × Bool) (x1 x15:Int):Option ((Option aA) × (Option aA) × (List Int) × (List Int)) :=
 if 0 <= (IntKind.wrap .i64 (((p20 ++ [p16]).length:Int) - 1)) ∧ (IntKind.wrap .i64 (((p20 ++ [p16]).length:Int) - 1)).toNat < (p20 ++ [p16]).length then
  ((p20 ++ [p16])[(IntKind.wrap .i64 (((p20 ++ [p16]).length:Int) - 1)).toNat]?).bind fun (x37:Int) =>
  (at? a0.Orders x37).bind fun (x38:aJ) =>
  (mI x38 a2).bind fun (r39:Int × Bool) =>
  if (r39.1 == 0) = true then
   (aL (p19.set r3.1.toNat p16)).bind fun (r40:(List Int)) =>
   (aL (p20 ++ [p16])).bind fun (r41:(List Int)) =>
   if 0 <= (IntKind.wrap .i64 (((p20 ++ [p16]).length:Int) - 1)) ∧ (IntKind.wrap .i64 (((p20 ++ [p16]).length:Int) - 1)).toNat < (p20 ++ [p16]).length then
    ((p20 ++ [p16])[(IntKind.wrap .i64 (((p20 ++ [p16]).length:Int) - 1)).toNat]?).bind fun (x42:Int) =>
    (at? a0.Orders x42).bind fun (x43:aJ) =>
    (eO x43 a2).bind fun (r44:Bool) =>
    if r44 = true then
     some ((p17,p18,p19.set r3.1.toNat p16,p20 ++ [p16]))
    else
     (o9 a0 a1 a2 p16 p17 p18 p19 p20 r3 r40 r41 x1 x15 0 r40).bind fun (r50:(List Int)) =>
     if p17.isNone = true then
      some ((some (aA.mk 0 a1 a2 r50 r41),p18,p19.set r3.1.toNat p16,p20 ++ [p16]))
     else
      (p17).bind fun (x51:aA) =>
      (bJ (aA.mk 0 a1 a2 r50 r41) x51).bind fun (r52:Bool) =>
      if r52 = true then
       some ((some (aA.mk 0 a1 a2 r50 r41),p18,p19.set r3.1.toNat p16,p20 ++ [p16]))
      else
       some ((p17,p18,p19.set r3.1.toNat p16,p20 ++ [p16]))
   else none
  else
   if 0 <= r39.1 ∧ r39.1.toNat < (p19.set r3.1.toNat p16).length then
    ((p19.set r3.1.toNat p16)[r39.1.toNat]?).bind fun (x53:Int) =>
    (sV a0 a1 a2 p16 r3 r39 x1 x15 x37 x53 0 p17 p18 (p19.set r3.1.toNat p16) (p20 ++ [p16])).bind fun (r260:(Option aA) × (Option aA) × (List Int) × (List Int)) =>
    some ((r260.1,r260.2.1,r260.2.2.1,r260.2.2.2))
   else none
 else none
def oP (a0:aB) (a1 a2 p16:Int) (p17 p18:Option aA) (p19 p20 p270 p271:List Int) (r3:Int × Bool) (x1 x15 p275:Int) (p276:List Int):Option ((Int × (List Int)) ⊕ ((List Int))) :=
 if decide (p275 < (p270.length:Int)) = true then
  if 0 <= p275 ∧ p275.toNat < p276.length then
   (p276[p275.toNat]?).bind fun (x277:Int) =>
   if 0 <= p275 ∧ p275.toNat < p276.length then
    (p276[p275.toNat]?).bind fun (x278:Int) =>
    some (.inl (IntKind.wrap .i64 (p275 + 1),p276.set p275.toNat (if x277 > 0 then x277 else 0)))
   else none
  else none
 else
  some (.inr (p276))
def n8 (a0:aB) (a1 a2 p16:Int) (p17 p18:Option aA) (p19 p20 p270 p271:List Int) (r3:Int × Bool) (x1 x15 p275:Int) (p276:List Int):Option ((List Int)) :=
 eJ (fun (w:Int × (List Int))=>oP a0 a1 a2 p16 p17 p18 p19 p20 p270 p271 r3 x1 x15 w.1 w.2) (p275,p276)
def sO (a0:aB) (a1 a2 p16:Int) (p17 p18:Option aA) (p19 p20 p270 p271:List Int) (r3:Int × Bool) (x1 x15:Int):Option ((Option aA)) :=
 (n8 a0 a1 a2 p16 p17 p18 p19 p20 p270 p271 r3 x1 x15 0 p270).bind fun (r280:(List Int)) =>
 if p18.isNone = true then
  some (some (aA.mk 1 a1 a2 r280 p271))
 else
  (p18).bind fun (x281:aA) =>
  (bJ (aA.mk 1 a1 a2 r280 p271) x281).bind fun (r282:Bool) =>
  if r282 = true then
   some (some (aA.mk 1 a1 a2 r280 p271))
  else
   some (p18)
def oS (a0:aB) (a1 a2 p16:Int) (p17 p18:Option aA) (p19 p20 p270 p271:List Int) (r3:Int × Bool) (x1 x15 p285:Int) (p286:List Int):Option ((Int × (List Int)) ⊕ ((List Int))) :=
 if decide (p285 < (p270.length:Int)) = true then
  if 0 <= p285 ∧ p285.toNat < p286.length then
   (p286[p285.toNat]?).bind fun (x287:Int) =>
   if 0 <= p285 ∧ p285.toNat < p286.length then
    (p286[p285.toNat]?).bind fun (x288:Int) =>
    some (.inl (IntKind.wrap .i64 (p285 + 1),p286.set p285.toNat (if x287 > 0 then x287 else 0)))
   else none
  else none
 else
  some (.inr (p286))
def n7 (a0:aB) (a1 a2 p16:Int) (p17 p18:Option aA) (p19 p20 p270 p271:List Int) (r3:Int × Bool) (x1 x15 p285:Int) (p286:List Int):Option ((List Int)) :=
 eJ (fun (w:Int × (List Int))=>oS a0 a1 a2 p16 p17 p18 p19 p20 p270 p271 r3 x1 x15 w.1 w.2) (p285,p286)
def sM (a0:aB) (a1 a2 p16:Int) (p17 p18:Option aA) (p19 p20 p270 p271:List Int) (r3:Int × Bool) (x1 x15:Int):Option ((Option aA)) :=
 (n7 a0 a1 a2 p16 p17 p18 p19 p20 p270 p271 r3 x1 x15 0 p270).bind fun (r290:(List Int)) =>
 if p17.isNone = true then
  some (some (aA.mk 0 a1 a2 r290 p271))
 else
  (p17).bind fun (x291:aA) =>
  (bJ (aA.mk 0 a1 a2 r290 p271) x291).bind fun (r292:Bool) =>
  if r292 = true then
   some (some (aA.mk 0 a1 a2 r290 p271))
  else
   some (p17)
def fQ (a0:aB) (a1 a2 p16:Int) (p17 p18:Option aA) (p19 p20:List Int) (r3:Int × Bool) (x1 x15:Int) (p269:Bool) (p270 p271:List Int):Option (((Option aA) × (Option aA)) ⊕ Unit) :=
 if p269 = true then
  (sO a0 a1 a2 p16 p17 p18 p19 p20 p270 p271 r3 x1 x15).bind fun (r284:(Option aA)) =>
  some (.inl (p17,r284))
 else
  if 0 <= (IntKind.wrap .i64 (((p20 ++ [p16]).length:Int) - 1)) ∧ (IntKind.wrap .i64 (((p20 ++ [p16]).length:Int) - 1)).toNat < (p20 ++ [p16]).length then
   ((p20 ++ [p16])[(IntKind.wrap .i64 (((p20 ++ [p16]).length:Int) - 1)).toNat]?).bind fun (x272:Int) =>
   (at? a0.Orders x272).bind fun (x273:aJ) =>
   (eO x273 a2).bind fun (r274:Bool) =>
   if r274 = true then
    some (.inr (()))
   else
    (sM a0 a1 a2 p16 p17 p18 p19 p20 p270 p271 r3 x1 x15).bind fun (r294:(Option aA)) =>
    some (.inl (r294,p18))
  else none
def lG (a0:aB) (a1 a2 p16:Int) (p17 p18:Option aA) (p19 p20:List Int) (r3:Int × Bool) (x1 x15:Int):Option ((Option aA) × (Option aA)) :=
 if r3.2 = true then
  (at? a0.Orders p16).bind fun (x266:aJ) =>
  (aL (p19.set r3.1.toNat p16)).bind fun (r267:(List Int)) =>
  (aL (p20 ++ [p16])).bind fun (r268:(List Int)) =>
  (fQ a0 a1 a2 p16 p17 p18 p19 p20 r3 x1 x15 (!(x266.Accepts)) r267 r268).bind fun (r297:((Option aA) × (Option aA)) ⊕ Unit)=>Sum.elim (fun z298 =>
  some ((z298.1,z298.2))) (fun z299 =>
  some ((p17,p18))) r297
 else
  (aL (p19.set r3.1.toNat p16)).bind fun (r300:(List Int)) =>
  (aL (p20 ++ [p16])).bind fun (r301:(List Int)) =>
  (fQ a0 a1 a2 p16 p17 p18 p19 p20 r3 x1 x15 false r300 r301).bind fun (r302:((Option aA) × (Option aA)) ⊕ Unit)=>Sum.elim (fun z303 =>
  some ((z303.1,z303.2))) (fun z304 =>
  some ((p17,p18))) r302
def jV (a0:aB) (a1 a2 p16:Int) (r3:Int × Bool) (x1 x15:Int) (p309 p310:Option aA) (p311 p312:List Int):Option (Unit) :=
 if 0 <= (IntKind.wrap .i64 ((p312.length:Int) - 1)) ∧ (IntKind.wrap .i64 ((p312.length:Int) - 1)).toNat <= p312.length then
  some (())
 else none
def dG (a0:aB) (a1 a2 p16:Int) (r3:Int × Bool) (x1 x15:Int) (p316 p317:Option aA) (p318 p319:List Int):Option ((List Int)) :=
 if (x15 == (-1)) = true then
  if 0 <= r3.1 ∧ r3.1.toNat < p318.length then
   (p318[r3.1.toNat]?).bind fun (x320:Int) =>
   some (p318.set r3.1.toNat (-1))
  else none
 else
  some (p318)
def lI (a0:aB) (a1 a2 p16:Int) (p17 p18:Option aA) (p19 p20:List Int) (r3:Int × Bool) (x1 x15:Int):Option ((Option aA) × (Option aA) × (List Int) × (List Int)) :=
 if 0 <= r3.1 ∧ r3.1.toNat < p19.length then
  (p19[r3.1.toNat]?).bind fun (x22:Int) =>
  if (p16 == x1) = true then
   (aL (p19.set r3.1.toNat p16)).bind fun (r23:(List Int)) =>
   (aL p20).bind fun (r24:(List Int)) =>
   if 0 <= (IntKind.wrap .i64 ((p20.length:Int) - 1)) ∧ (IntKind.wrap .i64 ((p20.length:Int) - 1)).toNat < p20.length then
    (p20[(IntKind.wrap .i64 ((p20.length:Int) - 1)).toNat]?).bind fun (x25:Int) =>
    (at? a0.Orders x25).bind fun (x26:aJ) =>
    (eO x26 a2).bind fun (r27:Bool) =>
    if r27 = true then
     (dG a0 a1 a2 p16 r3 x1 x15 p17 p18 (p19.set r3.1.toNat p16) p20).bind fun (r322:(List Int)) =>
     some ((p17,p18,r322,p20))
    else
     (oZ a0 a1 a2 p16 p17 p18 p19 p20 r23 r24 r3 x1 x15 0 r23).bind fun (r33:(List Int)) =>
     if p17.isNone = true then
      (dG a0 a1 a2 p16 r3 x1 x15 (some (aA.mk 0 a1 a2 r33 r24)) p18 (p19.set r3.1.toNat p16) p20).bind fun (r323:(List Int)) =>
      some (((some (aA.mk 0 a1 a2 r33 r24)),p18,r323,p20))
     else
      (p17).bind fun (x34:aA) =>
      (bJ (aA.mk 0 a1 a2 r33 r24) x34).bind fun (r35:Bool) =>
      if r35 = true then
       (dG a0 a1 a2 p16 r3 x1 x15 (some (aA.mk 0 a1 a2 r33 r24)) p18 (p19.set r3.1.toNat p16) p20).bind fun (r324:(List Int)) =>
       some (((some (aA.mk 0 a1 a2 r33 r24)),p18,r324,p20))
      else
       (dG a0 a1 a2 p16 r3 x1 x15 p17 p18 (p19.set r3.1.toNat p16) p20).bind fun (r325:(List Int)) =>
       some ((p17,p18,r325,p20))
   else none
  else
   (b6 p20 p16).bind fun (r36:Bool) =>
   if (p20.length + 1) * 8 <= 140737488355328 then
    if r3.2 = true then
     if (!(r36)) = true then
      (nW a0 a1 a2 p16 p17 p18 p19 p20 r3 x1 x15).bind fun (r265:(Option aA) × (Option aA) × (List Int) × (List Int)) =>
      (jV a0 a1 a2 p16 r3 x1 x15 r265.1 r265.2.1 r265.2.2.1 r265.2.2.2).bind fun (r313:Unit) =>
      (dG a0 a1 a2 p16 r3 x1 x15 r265.1 r265.2.1 r265.2.2.1 (r265.2.2.2.take ((IntKind.wrap .i64 ((r265.2.2.2.length:Int) - 1)).toNat))).bind fun (r326:(List Int)) =>
      some ((r265.1,r265.2.1,r326,(r265.2.2.2.take ((IntKind.wrap .i64 ((r265.2.2.2.length:Int) - 1)).toNat))))
     else
      (lG a0 a1 a2 p16 p17 p18 p19 p20 r3 x1 x15).bind fun (r307:(Option aA) × (Option aA)) =>
      (jV a0 a1 a2 p16 r3 x1 x15 r307.1 r307.2 (p19.set r3.1.toNat p16) (p20 ++ [p16])).bind fun (r314:Unit) =>
      (dG a0 a1 a2 p16 r3 x1 x15 r307.1 r307.2 (p19.set r3.1.toNat p16) ((p20 ++ [p16]).take ((IntKind.wrap .i64 (((p20 ++ [p16]).length:Int) - 1)).toNat))).bind fun (r327:(List Int)) =>
      some ((r307.1,r307.2,r327,((p20 ++ [p16]).take ((IntKind.wrap .i64 (((p20 ++ [p16]).length:Int) - 1)).toNat))))
    else
     (lG a0 a1 a2 p16 p17 p18 p19 p20 r3 x1 x15).bind fun (r308:(Option aA) × (Option aA)) =>
     (jV a0 a1 a2 p16 r3 x1 x15 r308.1 r308.2 (p19.set r3.1.toNat p16) (p20 ++ [p16])).bind fun (r315:Unit) =>
     (dG a0 a1 a2 p16 r3 x1 x15 r308.1 r308.2 (p19.set r3.1.toNat p16) ((p20 ++ [p16]).take ((IntKind.wrap .i64 (((p20 ++ [p16]).length:Int) - 1)).toNat))).bind fun (r328:(List Int)) =>
     some ((r308.1,r308.2,r328,((p20 ++ [p16]).take ((IntKind.wrap .i64 (((p20 ++ [p16]).length:Int) - 1)).toNat))))
   else none
 else none
def gT (a0:aB) (a1 a2:Int) (r3:Int × Bool) (x1 x15 p16:Int) (p17 p18:Option aA) (p19 p20:List Int):Option ((Int × (Option aA) × (Option aA) × (List Int) × (List Int)) ⊕ ((Option aA) × (Option aA))) :=
 if decide (p16 < (a0.Orders.length:Int)) = true then
  if (!(x15 == (-1))) = true then
   if 0 <= r3.1 ∧ r3.1.toNat < p19.length then
    (p19[r3.1.toNat]?).bind fun (x21:Int) =>
    if (x21 != p16) = true then
     some (.inl (IntKind.wrap .i64 (p16 + 1),p17,p18,p19,p20))
    else
     (lI a0 a1 a2 p16 p17 p18 p19 p20 r3 x1 x15).bind fun (r333:(Option aA) × (Option aA) × (List Int) × (List Int)) =>
     some (.inl (IntKind.wrap .i64 (p16 + 1),r333.1,r333.2.1,r333.2.2.1,r333.2.2.2))
   else none
  else
   (lI a0 a1 a2 p16 p17 p18 p19 p20 r3 x1 x15).bind fun (r334:(Option aA) × (Option aA) × (List Int) × (List Int)) =>
   some (.inl (IntKind.wrap .i64 (p16 + 1),r334.1,r334.2.1,r334.2.2.1,r334.2.2.2))
 else
  some (.inr ((p17,p18)))
def nP (a0:aB) (a1 a2:Int) (r3:Int × Bool) (x1 x15 p16:Int) (p17 p18:Option aA) (p19 p20:List Int):Option ((Option aA) × (Option aA)) :=
 eJ (fun (w:Int × (Option aA) × (Option aA) × (List Int) × (List Int))=>gT a0 a1 a2 r3 x1 x15 w.1 w.2.1 w.2.2.1 w.2.2.2.1 w.2.2.2.2) (p16,p17,p18,p19,p20)
def rV (a0:aB) (a1 a2:Int):Option (aD) :=
 if 0 <= (IntKind.wrap .i64 (([a1].length:Int) - 1)) ∧ (IntKind.wrap .i64 (([a1].length:Int) - 1)).toNat < 1 then
  ([a1][(IntKind.wrap .i64 (([a1].length:Int) - 1)).toNat]?).bind fun (x1:Int) =>
  (at? a0.Orders x1).bind fun (x2:aJ) =>
  (mI x2 a2).bind fun (r3:Int × Bool) =>
  if (r3.1 == 0) = true then
   (aL [a1,(-1),(-1),(-1),(-1)]).bind fun (r4:(List Int)) =>
   (aL [a1]).bind fun (r5:(List Int)) =>
   if 0 <= (IntKind.wrap .i64 (([a1].length:Int) - 1)) ∧ (IntKind.wrap .i64 (([a1].length:Int) - 1)).toNat < 1 then
    ([a1][(IntKind.wrap .i64 (([a1].length:Int) - 1)).toNat]?).bind fun (x6:Int) =>
    (at? a0.Orders x6).bind fun (x7:aJ) =>
    (eO x7 a2).bind fun (r8:Bool) =>
    if r8 = true then
     some (aD.mk none none)
    else
     (pC a1 a2 r4 r5 0 r4).bind fun (r14:(List Int)) =>
     some (aD.mk (some (aA.mk 0 a1 a2 r14 r5)) none)
   else none
  else
   if 0 <= r3.1 ∧ r3.1.toNat < 5 then
    ([a1,(-1),(-1),(-1),(-1)][r3.1.toNat]?).bind fun (x15:Int) =>
    (nP a0 a1 a2 r3 x1 x15 0 none none [a1,(-1),(-1),(-1),(-1)] [a1]).bind fun (r337:(Option aA) × (Option aA)) =>
    some (aD.mk r337.1 r337.2)
   else none
 else none
def nI (a0:aB) (p2 p4 p7:Int) (p8:List aA) (r6:aD) (p9:Option aA):Option ((List aA)) :=
 if p9.isSome = true then
  (p9).bind fun (x10:aA) =>
  if (p8.length + 1) * 72 <= 140737488355328 then
   some (p8 ++ [x10])
  else none
 else
  some (p8)
def jN (a0:aB) (p2 p4:Int) (r6:aD) (p7:Int) (p8:List aA):Option ((Int × (List aA)) ⊕ ((List aA))) :=
 if decide (p7 < 2) = true then
  if p7 = 0 then
   (nI a0 p2 p4 p7 p8 r6 r6.e0).bind fun (r12:(List aA)) =>
   some (.inl (IntKind.wrap .i64 (p7 + 1),r12))
  else
   if p7 = 1 then
    (nI a0 p2 p4 p7 p8 r6 r6.e1).bind fun (r13:(List aA)) =>
    some (.inl (IntKind.wrap .i64 (p7 + 1),r13))
   else none
 else
  some (.inr (p8))
def rP (a0:aB) (p2 p4:Int) (r6:aD) (p7:Int) (p8:List aA):Option ((List aA)) :=
 eJ (fun (w:Int × (List aA))=>jN a0 p2 p4 r6 w.1 w.2) (p7,p8)
def jO (a0:aB) (p2 p4:Int) (p5:List aA):Option ((Int × (List aA)) ⊕ ((List aA))) :=
 if decide (p4 < 22) = true then
  (rV a0 p2 p4).bind fun (r6:aD) =>
  (rP a0 p2 p4 r6 0 p5).bind fun (r15:(List aA)) =>
  some (.inl (IntKind.wrap .i64 (p4 + 1),r15))
 else
  some (.inr (p5))
def rO (a0:aB) (p2 p4:Int) (p5:List aA):Option ((List aA)) :=
 eJ (fun (w:Int × (List aA))=>jO a0 p2 w.1 w.2) (p4,p5)
def jM (a0:aB) (p2:Int) (p3:List aA):Option ((Int × (List aA)) ⊕ ((List aA))) :=
 if decide (p2 < (a0.Orders.length:Int)) = true then
  (rO a0 p2 0 p3).bind fun (r17:(List aA)) =>
  some (.inl (IntKind.wrap .i64 (p2 + 1),r17))
 else
  some (.inr (p3))
def wC (a0:aB) (p2:Int) (p3:List aA):Option ((List aA)) :=
 eJ (fun (w:Int × (List aA))=>jM a0 w.1 w.2) (p2,p3)
def nX (a0:aB):Option ((List aA) × Int) :=
 (nV a0).bind fun (r1:Int) =>
 if (r1 != 0) = true then
  some ([],r1)
 else
  (wC a0 0 []).bind fun (r19:(List aA)) =>
  some (r19,0)
def iM (a0 a1:List Int) (p1:Int):Option ((Int) ⊕ (Unit ⊕ Unit)) :=
 if decide (p1 < (a0.length:Int)) = true then
  (at? a0 p1).bind fun (x2:Int) =>
  (at? a1 p1).bind fun (x3:Int) =>
  if (x2 != x3) = true then
   some (.inr (.inr (())))
  else
   some (.inl (IntKind.wrap .i64 (p1 + 1)))
 else
  some (.inr (.inl ()))
def nG (a0 a1:List Int) (p1:Int):Option (Unit ⊕ Unit) :=
 eJ (fun (w:Int)=>iM a0 a1 w) p1
def jA (a0 a1:List Int):Option (Bool) :=
 if ((a0.length:Int) != (a1.length:Int)) = true then
  some false
 else
  (nG a0 a1 0).bind fun (r4:Unit ⊕ Unit)=>Sum.elim (fun z5 =>
  some true) (fun z6 =>
  some false) r4
def rE (a0 a1:aA):Option (Bool) :=
 if (a0.Kind == a1.Kind) = true then
  if (a0.Forum == a1.Forum) = true then
   if (a0.Ask == a1.Ask) = true then
    (jA a0.Places a1.Places).bind fun (r1:Bool) =>
    if r1 = true then
     (jA a0.Path a1.Path).bind fun (r2:Bool) =>
     some r2
    else
     some false
   else
    some false
  else
   some false
 else
  some false
def iZ (a0 a1:List aA) (p1:Int):Option ((Int) ⊕ (Unit ⊕ Unit)) :=
 if decide (p1 < (a0.length:Int)) = true then
  (at? a0 p1).bind fun (x2:aA) =>
  (at? a1 p1).bind fun (x3:aA) =>
  (rE x2 x3).bind fun (r4:Bool) =>
  if (!(r4)) = true then
   some (.inr (.inr (())))
  else
   some (.inl (IntKind.wrap .i64 (p1 + 1)))
 else
  some (.inr (.inl ()))
def oC (a0 a1:List aA) (p1:Int):Option (Unit ⊕ Unit) :=
 eJ (fun (w:Int)=>iZ a0 a1 w) p1
def nC (a0 a1:List aA):Option (Bool) :=
 if ((a0.length:Int) != (a1.length:Int)) = true then
  some false
 else
  (oC a0 a1 0).bind fun (r5:Unit ⊕ Unit)=>Sum.elim (fun z6 =>
  some true) (fun z7 =>
  some false) r5
def lP (a0 a1:Int):Option (Bool) :=
 if decide (a0 < 0) = true then
  some true
 else
  some (decide (a0 ≥ a1))
def bZ (a0:List Int) (a1 p1:Int):Option ((Int) ⊕ (Unit ⊕ Int)) :=
 if decide (p1 < (a0.length:Int)) = true then
  (at? a0 p1).bind fun (x2:Int) =>
  (lP x2 a1).bind fun (r3:Bool) =>
  if r3 = true then
   some (.inr (.inr (p1)))
  else
   some (.inl (IntKind.wrap .i64 (p1 + 1)))
 else
  some (.inr (.inl ()))
def fV (a0:List Int) (a1 p1:Int):Option (Unit ⊕ Int) :=
 eJ (fun (w:Int)=>bZ a0 a1 w) p1
def fA (a0:List Int) (a1:Int):Option (Int) :=
 (fV a0 a1 0).bind fun (r5:Unit ⊕ Int)=>Sum.elim (fun z6 =>
 some (-1)) (fun z7 =>
 some z7) r5
def dA (a0:List Int) (a1:Int):Option (Bool) :=
 (fA a0 a1).bind fun (r1:Int) =>
 some (decide (r1 ≥ 0))
def mW (a0:aB) (a1 a2:Int) (a3:List Int):Option (Bool) :=
 if decide (a1 < 0) = true then
  some false
 else
  if decide (a1 ≥ (a0.Orders.length:Int)) = true then
   some false
  else
   if decide (a2 < 0) = true then
    some false
   else
    if decide (a2 ≥ 22) = true then
     some false
    else
     if ((a3.length:Int) != 5) = true then
      some false
     else
      (dA a3 (a0.Orders.length:Int)).bind fun (r1:Bool) =>
      some (!(r1))
def fY (a1 a2:Int) (a3:List Int) (x2:aJ) (p3:Int):Option ((Int) ⊕ (Unit ⊕ (Int × Bool))) :=
 if decide (p3 < (x2.Choices.length:Int)) = true then
  (at? x2.Choices p3).bind fun (x4:aQ) =>
  if (x4.Ask == a2) = true then
   if (x4.By != 0) = true then
    (at? a3 x4.By).bind fun (x5:Int) =>
    some (.inr (.inr ((x5,x4.Whole))))
   else
    some (.inl (IntKind.wrap .i64 (p3 + 1)))
  else
   some (.inl (IntKind.wrap .i64 (p3 + 1)))
 else
  some (.inr (.inl ()))
def qT (a1 a2:Int) (a3:List Int) (x2:aJ) (p3:Int):Option (Unit ⊕ (Int × Bool)) :=
 eJ (fun (w:Int)=>fY a1 a2 a3 x2 w) p3
def nK (a0:aB) (a1 a2:Int) (a3:List Int):Option (Int × Bool) :=
 (mW a0 a1 a2 a3).bind fun (r1:Bool) =>
 if (!(r1)) = true then
  some ((-1),false)
 else
  (at? a0.Orders a1).bind fun (x2:aJ) =>
  (qT a1 a2 a3 x2 0).bind fun (r8:Unit ⊕ (Int × Bool))=>Sum.elim (fun z9 =>
  some (a1,false)) (fun z10 =>
  some (z10.1,z10.2)) r8
def kH (a0:aB) (a2:Int) (a3 p3:List Int):Option (((List Int)) ⊕ (Int × (List Int))) :=
 if 0 <= (IntKind.wrap .i64 ((p3.length:Int) - 1)) ∧ (IntKind.wrap .i64 ((p3.length:Int) - 1)).toNat < p3.length then
  (p3[(IntKind.wrap .i64 ((p3.length:Int) - 1)).toNat]?).bind fun (x4:Int) =>
  (nK a0 x4 a2 a3).bind fun (r5:Int × Bool) =>
  if (r5.1 == x4) = true then
   some (.inr ((0,p3)))
  else
   (b6 p3 r5.1).bind fun (r6:Bool) =>
   if (p3.length + 1) * 8 <= 140737488355328 then
    if (!(r5.2)) = true then
     some (.inr ((0,p3 ++ [r5.1])))
    else
     if r6 = true then
      (at? a0.Orders r5.1).bind fun (x7:aJ) =>
      if x7.Accepts = true then
       some (.inr ((0,p3 ++ [r5.1])))
      else
       if r6 = true then
        some (.inr ((12,p3 ++ [r5.1])))
       else
        some (.inl (p3 ++ [r5.1]))
     else
      if r6 = true then
       some (.inr ((12,p3 ++ [r5.1])))
      else
       some (.inl (p3 ++ [r5.1]))
   else none
 else none
def tU (a0:aB) (a2:Int) (a3 p3:List Int):Option (Int × (List Int)) :=
 eJ (fun (w:(List Int))=>kH a0 a2 a3 w) p3
def kR (a0:aB) (a1 a2:Int) (a3:List Int):Option ((List Int) × Int) :=
 (mW a0 a1 a2 a3).bind fun (r1:Bool) =>
 if (!(r1)) = true then
  some ([],1)
 else
  (at? a3 0).bind fun (x2:Int) =>
  if (x2 != a1) = true then
   some ([],1)
  else
   (tU a0 a2 a3 [a1]).bind fun (r10:Int × (List Int)) =>
   some (r10.2,r10.1)
def jS (a0 a1:List Int) (p1:Int):Option ((Int) ⊕ (Unit ⊕ Unit)) :=
 if decide (p1 < (a0.length:Int)) = true then
  (at? a0 p1).bind fun (x2:Int) =>
  (at? a1 p1).bind fun (x3:Int) =>
  if (x2 != x3) = true then
   some (.inr (.inr (())))
  else
   some (.inl (IntKind.wrap .i64 (p1 + 1)))
 else
  some (.inr (.inl ()))
def oE (a0 a1:List Int) (p1:Int):Option (Unit ⊕ Unit) :=
 eJ (fun (w:Int)=>jS a0 a1 w) p1
def kE (a0 a1:List Int):Option (Bool) :=
 if ((a0.length:Int) != (a1.length:Int)) = true then
  some false
 else
  (oE a0 a1 0).bind fun (r4:Unit ⊕ Unit)=>Sum.elim (fun z5 =>
  some true) (fun z6 =>
  some false) r4
def wK (a0:aB) (a1:aA) (r2:(List Int) × Int):Option (Bool) :=
 if (r2.2 == 12) = true then
  some (a1.Kind == 1)
 else
  if (a1.Kind == 0) = true then
   (at? r2.1 (IntKind.wrap .i64 ((r2.1.length:Int) - 1))).bind fun (x5:Int) =>
   (at? a0.Orders x5).bind fun (x6:aJ) =>
   (eO x6 a1.Ask).bind fun (r7:Bool) =>
   some (!(r7))
  else
   some (false)
def n6 (a0:aB) (a1:aA):Option (Bool) :=
 (nV a0).bind fun (r1:Int) =>
 if (r1 != 0) = true then
  some false
 else
  (kR a0 a1.Forum a1.Ask a1.Places).bind fun (r2:(List Int) × Int) =>
  if (r2.2 != 0) = true then
   if (r2.2 != 12) = true then
    some false
   else
    (kE r2.1 a1.Path).bind fun (r3:Bool) =>
    if (!(r3)) = true then
     some false
    else
     (wK a0 a1 r2).bind fun (r9:Bool) =>
     some r9
  else
   (kE r2.1 a1.Path).bind fun (r4:Bool) =>
   if (!(r4)) = true then
    some false
   else
    (wK a0 a1 r2).bind fun (r10:Bool) =>
    some r10
def mD (a0:aB):Option (Bool) :=
 (nX a0).bind fun (r1:(List aA) × Int) =>
 if (r1.2 == 0) = true then
  some ((r1.1.length:Int) == 0)
 else
  some false
def gS:Option (Bool) :=
 (m9).bind fun (r1:aB) =>
 (nX r1).bind fun (r2:(List aA) × Int) =>
 if (0 + 1) * 72 <= 140737488355328 then
  if ((([]:List aA) ++ [(aA.mk 1 0 1 [0,0,0,0,1] [0,1,0])]).length + 1) * 72 <= 140737488355328 then
   if (((([]:List aA) ++ [(aA.mk 1 0 1 [0,0,0,0,1] [0,1,0])]) ++ [(aA.mk 0 0 6 [0,0,1,0,0] [0,1])]).length + 1) * 72 <= 140737488355328 then
    if ((((([]:List aA) ++ [(aA.mk 1 0 1 [0,0,0,0,1] [0,1,0])]) ++ [(aA.mk 0 0 6 [0,0,1,0,0] [0,1])]) ++ [(aA.mk 1 1 1 [1,0,0,0,1] [1,0,1])]).length + 1) * 72 <= 140737488355328 then
     if 0 <= 1 ∧ 1 < ((((([]:List aA) ++ [(aA.mk 1 0 1 [0,0,0,0,1] [0,1,0])]) ++ [(aA.mk 0 0 6 [0,0,1,0,0] [0,1])]) ++ [(aA.mk 1 1 1 [1,0,0,0,1] [1,0,1])]) ++ [(aA.mk 0 1 6 [1,0,0,0,0] [1])]).length then
      (((((([]:List aA) ++ [(aA.mk 1 0 1 [0,0,0,0,1] [0,1,0])]) ++ [(aA.mk 0 0 6 [0,0,1,0,0] [0,1])]) ++ [(aA.mk 1 1 1 [1,0,0,0,1] [1,0,1])]) ++ [(aA.mk 0 1 6 [1,0,0,0,0] [1])])[1]?).bind fun (x3:aA) =>
      if 0 <= 1 ∧ 1 < ((((([]:List aA) ++ [(aA.mk 1 0 1 [0,0,0,0,1] [0,1,0])]) ++ [(aA.mk 0 0 6 [0,0,1,0,0] [0,1])]) ++ [(aA.mk 1 1 1 [1,0,0,0,1] [1,0,1])]) ++ [(aA.mk 0 1 6 [1,0,0,0,0] [1])]).length then
       (((((([]:List aA) ++ [(aA.mk 1 0 1 [0,0,0,0,1] [0,1,0])]) ++ [(aA.mk 0 0 6 [0,0,1,0,0] [0,1])]) ++ [(aA.mk 1 1 1 [1,0,0,0,1] [1,0,1])]) ++ [(aA.mk 0 1 6 [1,0,0,0,0] [1])])[1]?).bind fun (x4:aA) =>
       if (r2.2 == 0) = true then
        (nC r2.1 ((((([]:List aA) ++ [(aA.mk 1 0 1 [0,0,0,0,1] [0,1,0])]) ++ [(aA.mk 0 0 6 [0,0,1,0,0] [0,1])]) ++ [(aA.mk 1 1 1 [1,0,0,0,1] [1,0,1])]) ++ [(aA.mk 0 1 6 [1,0,0,0,0] [1])])).bind fun (r5:Bool) =>
        if r5 = true then
         if 0 <= 0 ∧ 0 < ((((([]:List aA) ++ [(aA.mk 1 0 1 [0,0,0,0,1] [0,1,0])]) ++ [(aA.mk 0 0 6 [0,0,1,0,0] [0,1])]) ++ [(aA.mk 1 1 1 [1,0,0,0,1] [1,0,1])]) ++ [(aA.mk 0 1 6 [1,0,0,0,0] [1])]).length then
          (((((([]:List aA) ++ [(aA.mk 1 0 1 [0,0,0,0,1] [0,1,0])]) ++ [(aA.mk 0 0 6 [0,0,1,0,0] [0,1])]) ++ [(aA.mk 1 1 1 [1,0,0,0,1] [1,0,1])]) ++ [(aA.mk 0 1 6 [1,0,0,0,0] [1])])[0]?).bind fun (x6:aA) =>
          (n6 r1 x6).bind fun (r7:Bool) =>
          if r7 = true then
           (n6 r1 (aA.mk x3.Kind x3.Forum x3.Ask [0,1,1,1,1] x3.Path)).bind fun (r8:Bool) =>
           if r8 = true then
            (n6 r1 (aA.mk 1 x4.Forum x4.Ask x4.Places x4.Path)).bind fun (r9:Bool) =>
            if (!(r9)) = true then
             (mD r1).bind fun (r10:Bool) =>
             if (!(r10)) = true then
              (mD (aB.mk [] [] [] [] [] [] [] [])).bind fun (r11:Bool) =>
              some r11
             else
              some false
            else
             some false
           else
            some false
          else
           some false
         else none
        else
         some false
       else
        some false
      else none
     else none
    else none
   else none
  else none
 else none
def e8 (a0:aB) (p1:Int):Option ((Int) ⊕ (Unit ⊕ Unit)) :=
 if decide (p1 < (a0.Cities.length:Int)) = true then
  if decide (p1 < 50) = true then
   (at? a0.Cities p1).bind fun (x2:aX) =>
   if decide ((x2.Feasts.length:Int) > 70) = true then
    some (.inr (.inr (())))
   else
    (at? a0.Cities p1).bind fun (x3:aX) =>
    if decide ((x3.Shut.length:Int) > 210) = true then
     some (.inr (.inr (())))
    else
     (at? a0.Cities p1).bind fun (x4:aX) =>
     if decide ((x4.Rest.length:Int) > 8) = true then
      some (.inr (.inr (())))
     else
      some (.inl (IntKind.wrap .i64 (p1 + 1)))
  else
   some (.inr (.inl ()))
 else
  some (.inr (.inl ()))
def nR (a0:aB) (p1:Int):Option (Unit ⊕ Unit) :=
 eJ (fun (w:Int)=>e8 a0 w) p1
def eR (a0:aB) (p8:Int):Option ((Int) ⊕ (Unit ⊕ Unit)) :=
 if decide (p8 < (a0.Orders.length:Int)) = true then
  if decide (p8 < 50) = true then
   (at? a0.Orders p8).bind fun (x9:aJ) =>
   if decide ((x9.Choices.length:Int) > 40) = true then
    some (.inr (.inr (())))
   else
    (at? a0.Orders p8).bind fun (x10:aJ) =>
    if decide ((x10.Rules.length:Int) > 40) = true then
     some (.inr (.inr (())))
    else
     some (.inl (IntKind.wrap .i64 (p8 + 1)))
  else
   some (.inr (.inl ()))
 else
  some (.inr (.inl ()))
def nY (a0:aB) (p8:Int):Option (Unit ⊕ Unit) :=
 eJ (fun (w:Int)=>eR a0 w) p8
def lE (a0:aB):Option (Bool) :=
 (nR a0 0).bind fun (r5:Unit ⊕ Unit)=>Sum.elim (fun z6 =>
 (nY a0 0).bind fun (r11:Unit ⊕ Unit)=>Sum.elim (fun z12 =>
  if decide ((a0.Currencies.length:Int) < 50) = true then
    if decide ((a0.Cities.length:Int) < 50) = true then
     if decide ((a0.Groups.length:Int) < 50) = true then
      if decide ((a0.Firms.length:Int) < 210) = true then
       if decide ((a0.Orders.length:Int) < 50) = true then
        if decide ((a0.Usances.length:Int) < 110) = true then
         if decide ((a0.Rates.length:Int) < 110) = true then
          some (decide ((a0.Halts.length:Int) < 50))
         else
          some false
        else
         some false
       else
        some false
      else
       some false
     else
      some false
    else
     some false
   else
    some false) (fun z13 =>
  some false) r11) (fun z7 =>
 some false) r5
def lA (a0:aB):Option (Bool) :=
 (lE a0).bind fun (r1:Bool) =>
 if r1 = true then
  some (decide ((a0.Orders.length:Int) <= 3))
 else
  some false
def tF (a0:Int):Option (Int × Bool) :=
 if decide (a0 < 0) = true then
  some (0,false)
 else
  if decide (a0 ≥ 22) = true then
   some (0,false)
  else
   (b6 ([6,7,10,12,13,14,15,16,20,21]:List Int) a0).bind fun (r1:Bool) =>
   if r1 = true then
    some (0,true)
   else
    some (1,true)
def pR (a0:aS) (a1:Int):Option (Bool) :=
 some (a0.Ask == a1)
def bF (a0:List aS) (a1 p1:Int):Option ((Int) ⊕ (Unit ⊕ Int)) :=
 if decide (p1 < (a0.length:Int)) = true then
  (at? a0 p1).bind fun (x2:aS) =>
  (pR x2 a1).bind fun (r3:Bool) =>
  if r3 = true then
   some (.inr (.inr (p1)))
  else
   some (.inl (IntKind.wrap .i64 (p1 + 1)))
 else
  some (.inr (.inl ()))
def dE (a0:List aS) (a1 p1:Int):Option (Unit ⊕ Int) :=
 eJ (fun (w:Int)=>bF a0 a1 w) p1
def bX (a0:List aS) (a1:Int):Option (Int) :=
 (dE a0 a1 0).bind fun (r5:Unit ⊕ Int)=>Sum.elim (fun z6 =>
 some (-1)) (fun z7 =>
 some z7) r5
class RecF59 where
 run:aF->Int->Option Int
section
variable [RecF59]
def fI (a0:aF) (a1 p1 p2:Int):Option ((Int × Int) ⊕ (Int)) :=
 if decide (p2 < (a0.Args.length:Int)) = true then
  (at? a0.Args p2).bind fun (x3:aF) =>
  (RecF59.run x3 (IntKind.wrap .i64 (a1 + 1))).bind fun (r4:Int) =>
  if decide ((IntKind.wrap .i64 (p1 + r4)) > 60) = true then
   some (.inr (IntKind.wrap .i64 (p1 + r4)))
  else
   some (.inl (IntKind.wrap .i64 (p1 + r4),IntKind.wrap .i64 (p2 + 1)))
 else
  some (.inr (p1))
def sW (a0:aF) (a1 p1 p2:Int):Option (Int) :=
 eJ (fun (w:Int × Int)=>fI a0 a1 w.1 w.2) (p1,p2)
def s7 (a0:aF) (a1:Int):Option (Int) :=
 if decide (a1 > 8) = true then
  some 61
 else
  (sW a0 a1 1 0).bind fun (r6:Int) =>
  some r6
end
def MS:Nat->aF->Int->Option Int
 | 0=>fun _ _=>none
 | n + 1=>@s7 ⟨MS n⟩
def BB (a0:aF) (a1:Int):Option Int:=MS 1000 a0 a1
def jX (a0:Int):Option (Int) :=
 some (if 1099511627776 < (if (-1099511627776) > a0 then (-1099511627776) else a0) then 1099511627776 else (if (-1099511627776) > a0 then (-1099511627776) else a0))
def fD (a0:Int):Option (Int × Bool) :=
 if decide (a0 < 0) = true then
  some (0,false)
 else
  if decide (a0 > 19) = true then
   some (0,false)
  else
   if decide (a0 < 7) = true then
    some (0,true)
   else
    some (1,true)
def mR (a0:aF):Option (Int × Int) :=
 if decide ((a0.Args.length:Int) > 0) = true then
  some (0,2)
 else
  if (a0.Op == 0) = true then
   (jX a0.N).bind fun (r1:Int) =>
   if (r1 != a0.N) = true then
    some (0,3)
   else
    some (0,0)
  else
   if (a0.Op == 1) = true then
    if decide (a0.N < 0) = true then
     some (0,3)
    else
     if decide (a0.N > 1) = true then
      some (0,3)
     else
      some (1,0)
   else
    (fD a0.N).bind fun (r2:Int × Bool) =>
    if (!(r2.2)) = true then
     some (0,10)
    else
     some (r2.1,0)
def mK (a0:Int):Option (Unit ⊕ ((List Int) × Int)) :=
 if (a0 == 6) = true then
  some (.inr (([1,(-1),(-1)],(-1))))
 else
  if (a0 == 7) = true then
   some (.inr (([0,0],1)))
  else
   if (a0 == 8) = true then
    some (.inr (([(-1),(-1)],1)))
   else
    some (.inl ())
def mG (a0:Int):Option (aI) :=
 if (a0 == 3) = true then
  some (aI.mk [1] 1)
 else
  if (a0 == 4) = true then
   if (a0 == 4) = true then
    some (aI.mk [1,1] 1)
   else
    (mK a0).bind fun (r3:Unit ⊕ ((List Int) × Int))=>Sum.elim (fun z4 =>
    some (aI.mk [0,0] 0)) (fun z5 =>
    some (aI.mk z5.1 z5.2)) r3
  else
   if (a0 == 5) = true then
    some (aI.mk [1,1] 1)
   else
    (mK a0).bind fun (r6:Unit ⊕ ((List Int) × Int))=>Sum.elim (fun z7 =>
    some (aI.mk [0,0] 0)) (fun z8 =>
    some (aI.mk z8.1 z8.2)) r6
class RecF60 where
 run:aF->Option (Int × Int)
section
variable [RecF60]
def jB (a0:aF) (p1:Int) (p2:List Int):Option ((Int × (List Int)) ⊕ (((List Int)) ⊕ Int)) :=
 if decide (p1 < (a0.Args.length:Int)) = true then
  (at? a0.Args p1).bind fun (x3:aF) =>
  (RecF60.run x3).bind fun (r4:Int × Int) =>
  if (r4.2 != 0) = true then
   some (.inr (.inr (r4.2)))
  else
   if 0 <= p1 ∧ p1.toNat < p2.length then
    (p2[p1.toNat]?).bind fun (x5:Int) =>
    some (.inl (IntKind.wrap .i64 (p1 + 1),p2.set p1.toNat r4.1))
   else none
 else
  some (.inr (.inl p2))
def wH (a0:aF) (p1:Int) (p2:List Int):Option (((List Int)) ⊕ Int) :=
 eJ (fun (w:Int × (List Int))=>jB a0 w.1 w.2) (p1,p2)
def lL (a0:aF) (z9:(List Int)):Option (Unit ⊕ (Int × Int)) :=
 if (a0.Op == 0) = true then
  (mR a0).bind fun (r11:Int × Int) =>
  some (.inr ((r11.1,r11.2)))
 else
  if (a0.Op == 1) = true then
   (mR a0).bind fun (r12:Int × Int) =>
   some (.inr ((r12.1,r12.2)))
  else
   if (a0.Op == 2) = true then
    (mR a0).bind fun (r13:Int × Int) =>
    some (.inr ((r13.1,r13.2)))
   else
    some (.inl ())
def rQ (p21 p24:Int) (r19:aI) (z9:(List Int)) (p25:Int):Option (Unit ⊕ Unit) :=
 if 0 <= p21 ∧ p21.toNat < z9.length then
  (z9[p21.toNat]?).bind fun (x26:Int) =>
  if (x26 != p25) = true then
   some (.inr (()))
  else
   some (.inl ())
 else none
def nM (p21:Int) (r19:aI) (x22:Int) (z9:(List Int)) (p24:Int):Option (Unit ⊕ Unit) :=
 if (x22 == (-1)) = true then
  (rQ p21 p24 r19 z9 p24).bind fun (r27:Unit ⊕ Unit)=>Sum.elim (fun z28 =>
  some (.inl ())) (fun z29 =>
  some (.inr (()))) r27
 else
  (rQ p21 p24 r19 z9 x22).bind fun (r30:Unit ⊕ Unit)=>Sum.elim (fun z31 =>
  some (.inl ())) (fun z32 =>
  some (.inr (()))) r30
def jG (r19:aI) (z9:(List Int)) (p20 p21:Int):Option ((Int × Int) ⊕ (Int ⊕ Unit)) :=
 if decide (p21 < (r19.args.length:Int)) = true then
  (at? r19.args p21).bind fun (x22:Int) =>
  if (x22 == (-1)) = true then
   if (p20 == (-1)) = true then
    if 0 <= p21 ∧ p21.toNat < z9.length then
     (z9[p21.toNat]?).bind fun (x23:Int) =>
     (nM p21 r19 x22 z9 x23).bind fun (r33:Unit ⊕ Unit)=>Sum.elim (fun z34 =>
     some (.inl (x23,IntKind.wrap .i64 (p21 + 1)))) (fun z35 =>
     some (.inr (.inr (())))) r33
    else none
   else
    (nM p21 r19 x22 z9 p20).bind fun (r36:Unit ⊕ Unit)=>Sum.elim (fun z37 =>
    some (.inl (p20,IntKind.wrap .i64 (p21 + 1)))) (fun z38 =>
    some (.inr (.inr (())))) r36
  else
   (nM p21 r19 x22 z9 p20).bind fun (r39:Unit ⊕ Unit)=>Sum.elim (fun z40 =>
   some (.inl (p20,IntKind.wrap .i64 (p21 + 1)))) (fun z41 =>
   some (.inr (.inr (())))) r39
 else
  some (.inr (.inl p20))
def wE (r19:aI) (z9:(List Int)) (p20 p21:Int):Option (Int ⊕ Unit) :=
 eJ (fun (w:Int × Int)=>jG r19 z9 w.1 w.2) (p20,p21)
def yT (a0:aF):Option (Int × Int) :=
 if 0 <= (a0.Args.length:Int) ∧ (a0.Args.length:Int) <= (a0.Args.length:Int) ∧ 8 * (a0.Args.length:Int) <= 281474976710656 ∧ (a0.Args.length:Int) <= 9223372036854775807 then
  (wH a0 0 (List.replicate ((a0.Args.length:Int).toNat) (0:Int))).bind fun (r8:((List Int)) ⊕ Int)=>Sum.elim (fun z9 =>
  if decide (a0.Op < 0) = true then
    some (0,1)
   else
    if decide (a0.Op > 13) = true then
     some (0,1)
    else
     (lL a0 z9).bind fun (r16:Unit ⊕ (Int × Int))=>Sum.elim (fun z17 =>
     (mG a0.Op).bind fun (r19:aI) =>
      if ((z9.length:Int) != (r19.args.length:Int)) = true then
       some (0,2)
      else
       if (a0.N != 0) = true then
        some (0,2)
       else
        (wE r19 z9 (-1) 0).bind fun (r43:Int ⊕ Unit)=>Sum.elim (fun z44 =>
        if (r19.result == (-1)) = true then
          some (z44,0)
         else
          some (r19.result,0)) (fun z45 =>
        some (0,11)) r43) (fun z18 =>
     some (z18.1,z18.2)) r16) (fun z10 =>
  some (0,z10)) r8
 else none
end
def L1:Nat->aF->Option (Int × Int)
 | 0=>fun _=>none
 | n + 1=>@yT ⟨L1 n⟩
def EC (a0:aF):Option (Int × Int):=L1 1000 a0
def sY (a0:aF):Option (Int × Int) :=
 (BB a0 1).bind fun (r1:Int) =>
 if decide (r1 > 60) = true then
  some (0,6)
 else
  (EC a0).bind fun (r2:Int × Int) =>
  some (r2.1,r2.2)
def yA (a0:aJ) (a1:Int):Option (aF × Int) :=
 (tF a1).bind fun (r1:Int × Bool) =>
 if (!(r1.2)) = true then
  some ((aF.mk 0 0 []),1)
 else
  (bX a0.Rules a1).bind fun (r2:Int) =>
  if decide (r2 < 0) = true then
   some ((aF.mk 0 0 []),4)
  else
   (at? a0.Rules r2).bind fun (x3:aS) =>
   (sY x3.Term).bind fun (r4:Int × Int) =>
   if (r4.2 != 0) = true then
    some ((aF.mk 0 0 []),11)
   else
    if (r4.1 != r1.1) = true then
     some ((aF.mk 0 0 []),11)
    else
     some (x3.Term,0)
def lD (a0:Bool):Option (aH) :=
 if a0 = true then
  some (aH.mk true 1)
 else
  some (aH.mk true 0)
def dO (a0:aC) (a1:Int):Option (aH) :=
 if decide (a1 ≥ (a0.cells_.length:Int)) = true then
  some (aH.mk false 0)
 else
  (at? a0.cells_ a1).bind fun (x1:aH) =>
  if (!(x1.Known)) = true then
   some (aH.mk false 0)
  else
   (fD a1).bind fun (r2:Int × Bool) =>
   if (r2.1 == 1) = true then
    (at? a0.cells_ a1).bind fun (x3:aH) =>
    (lD (x3.N != 0)).bind fun (r4:aH) =>
    some r4
   else
    (at? a0.cells_ a1).bind fun (x5:aH) =>
    (jX x5.N).bind fun (r6:Int) =>
    some (aH.mk true r6)
def iL (a0 a1:Int):Option (Int × Int) :=
 some (IntKind.wrap .u64 ((IntKind.wrap .u64 ((IntKind.wrap .u64 ((a0.fdiv (2 ^ 32)) * (a1.fdiv (2 ^ 32)))) + ((IntKind.wrap .u64 ((IntKind.wrap .u64 ((a0.fdiv (2 ^ 32)) * (IntKind.wrap .u64 (BitVec.ofInt (IntKind.bits .u64) a1 &&& BitVec.ofInt (IntKind.bits .u64) 4294967295).toNat))) + ((IntKind.wrap .u64 ((IntKind.wrap .u64 (BitVec.ofInt (IntKind.bits .u64) a0 &&& BitVec.ofInt (IntKind.bits .u64) 4294967295).toNat) * (IntKind.wrap .u64 (BitVec.ofInt (IntKind.bits .u64) a1 &&& BitVec.ofInt (IntKind.bits .u64) 4294967295).toNat))).fdiv (2 ^ 32)))).fdiv (2 ^ 32)))) + ((IntKind.wrap .u64 ((IntKind.wrap .u64 (BitVec.ofInt (IntKind.bits .u64) (IntKind.wrap .u64 ((IntKind.wrap .u64 ((a0.fdiv (2 ^ 32)) * (IntKind.wrap .u64 (BitVec.ofInt (IntKind.bits .u64) a1 &&& BitVec.ofInt (IntKind.bits .u64) 4294967295).toNat))) + ((IntKind.wrap .u64 ((IntKind.wrap .u64 (BitVec.ofInt (IntKind.bits .u64) a0 &&& BitVec.ofInt (IntKind.bits .u64) 4294967295).toNat) * (IntKind.wrap .u64 (BitVec.ofInt (IntKind.bits .u64) a1 &&& BitVec.ofInt (IntKind.bits .u64) 4294967295).toNat))).fdiv (2 ^ 32)))) &&& BitVec.ofInt (IntKind.bits .u64) 4294967295).toNat) + (IntKind.wrap .u64 ((IntKind.wrap .u64 (BitVec.ofInt (IntKind.bits .u64) a0 &&& BitVec.ofInt (IntKind.bits .u64) 4294967295).toNat) * (a1.fdiv (2 ^ 32)))))).fdiv (2 ^ 32))),IntKind.wrap .u64 (a0 * a1))
def gB (a0 a1 p2:Int):Option (Int) :=
 if (!((decide (a0 < 0)) == (decide (a1 < 0)))) = true then
  some (IntKind.wrap .i64 (0 - p2))
 else
  some (p2)
def kN (a0 a1:Int):Option (Int) :=
 (iL (IntKind.wrap .u64 (if (IntKind.wrap .i64 (0 - a0)) > a0 then IntKind.wrap .i64 (0 - a0) else a0)) (IntKind.wrap .u64 (if (IntKind.wrap .i64 (0 - a1)) > a1 then IntKind.wrap .i64 (0 - a1) else a1))).bind fun (r1:Int × Int) =>
 if (r1.1 == 0) = true then
  if decide (r1.2 < 1099511627776) = true then
   (gB a0 a1 (IntKind.wrap .i64 r1.2)).bind fun (r4:Int) =>
   some r4
  else
   (gB a0 a1 1099511627776).bind fun (r5:Int) =>
   some r5
 else
  (gB a0 a1 1099511627776).bind fun (r6:Int) =>
  some r6
def fH (a0 a1 a2:Int):Option (Int) :=
 if (a0 == 9) = true then
  (jX (IntKind.wrap .i64 (a1 + a2))).bind fun (r1:Int) =>
  some r1
 else
  if (a0 == 10) = true then
   (jX (IntKind.wrap .i64 (a1 - a2))).bind fun (r2:Int) =>
   some r2
  else
   if (a0 == 11) = true then
    (kN a1 a2).bind fun (r3:Int) =>
    some r3
   else
    if (a0 == 12) = true then
     some (if a2 < a1 then a2 else a1)
    else
     some (if a2 > a1 then a2 else a1)
def gD (a0:Int) (a1:List aH):Option (Unit ⊕ aH) :=
 (lD (a0 == 5)).bind fun (r4:aH) =>
 (at? a1 0).bind fun (x5:aH) =>
 if ((x5.Known == r4.Known) && (x5.N == r4.N)) = true then
  some (.inr (r4))
 else
  (at? a1 1).bind fun (x6:aH) =>
  if ((x6.Known == r4.Known) && (x6.N == r4.N)) = true then
   some (.inr (r4))
  else
   some (.inl ())
def fF (a0:Int) (a1:List aH):Option (Unit ⊕ aH) :=
 if (a0 == 6) = true then
  (at? a1 1).bind fun (x11:aH) =>
  if x11.Known = true then
   (at? a1 1).bind fun (x12:aH) =>
   (at? a1 2).bind fun (x13:aH) =>
   if ((x12.Known == x13.Known) && (x12.N == x13.N)) = true then
    (at? a1 1).bind fun (x14:aH) =>
    some (.inr (x14))
   else
    some (.inr ((aH.mk false 0)))
  else
   some (.inr ((aH.mk false 0)))
 else
  some (.inl ())
def gJ (a0:Int) (x27 x28:aH):Option (Unit ⊕ aH) :=
 if (a0 == 7) = true then
  (lD (decide (x27.N < x28.N))).bind fun (r30:aH) =>
  some (.inr (r30))
 else
  if (a0 == 8) = true then
   (lD (x27.N == x28.N)).bind fun (r31:aH) =>
   some (.inr (r31))
  else
   some (.inl ())
def fC (a0:Int) (a1:List aH):Option (aH) :=
 (at? a1 0).bind fun (x25:aH) =>
 if (!(x25.Known)) = true then
  some ((aH.mk false 0))
 else
  (at? a1 1).bind fun (x26:aH) =>
  if (!(x26.Known)) = true then
   some ((aH.mk false 0))
  else
   (at? a1 0).bind fun (x27:aH) =>
   (at? a1 1).bind fun (x28:aH) =>
   if (a0 == 4) = true then
    if (a0 == 4) = true then
     (lD (a0 == 4)).bind fun (r29:aH) =>
     some (r29)
    else
     (gJ a0 x27 x28).bind fun (r33:Unit ⊕ aH)=>Sum.elim (fun z34 =>
     (fH a0 x27.N x28.N).bind fun (r40:Int) =>
      some ((aH.mk true r40))) (fun z35 =>
     some (z35)) r33
   else
    if (a0 == 5) = true then
     (lD (a0 == 4)).bind fun (r36:aH) =>
     some (r36)
    else
     (gJ a0 x27 x28).bind fun (r37:Unit ⊕ aH)=>Sum.elim (fun z38 =>
     (fH a0 x27.N x28.N).bind fun (r41:Int) =>
      some ((aH.mk true r41))) (fun z39 =>
     some (z39)) r37
def iB (a0:Int) (a1:List aH):Option (aH) :=
 if (a0 == 3) = true then
  (at? a1 0).bind fun (x1:aH) =>
  if x1.Known = true then
   (at? a1 0).bind fun (x2:aH) =>
   (lD (x2.N == 0)).bind fun (r3:aH) =>
   some r3
  else
   some (aH.mk false 0)
 else
  if (a0 == 4) = true then
   if (a0 == 4) = true then
    (gD a0 a1).bind fun (r8:Unit ⊕ aH)=>Sum.elim (fun z9 =>
    (fC a0 a1).bind fun (r43:aH) =>
     some r43) (fun z10 =>
    some z10) r8
   else
    (fF a0 a1).bind fun (r16:Unit ⊕ aH)=>Sum.elim (fun z17 =>
    (fC a0 a1).bind fun (r44:aH) =>
     some r44) (fun z18 =>
    some z18) r16
  else
   if (a0 == 5) = true then
    (gD a0 a1).bind fun (r19:Unit ⊕ aH)=>Sum.elim (fun z20 =>
    (fC a0 a1).bind fun (r45:aH) =>
     some r45) (fun z21 =>
    some z21) r19
   else
    (fF a0 a1).bind fun (r22:Unit ⊕ aH)=>Sum.elim (fun z23 =>
    (fC a0 a1).bind fun (r46:aH) =>
     some r46) (fun z24 =>
    some z24) r22
def eN (a0:List (List Int)):Option ((List Int)):=aPH a0
class RecF52 where
 run:aC->aF->Option (aH × (List Int))
section
variable [RecF52]
def dN (a0:aC) (a1:aF):Option (Unit ⊕ ((List Int) × aH)) :=
 if (a1.Op == 2) = true then
  (dO a0 a1.N).bind fun (r1:aH) =>
  if r1.Known = true then
   some (.inr (([],r1)))
  else
   some (.inr (([a1.N],(aH.mk false 0))))
 else
  some (.inl ())
def dR (a0:aC) (a1:aF) (p10:Int) (p11:List aH) (p12:List (List Int)):Option ((Int × (List aH) × (List (List Int))) ⊕ ((List aH) × (List (List Int)))) :=
 if decide (p10 < (a1.Args.length:Int)) = true then
  (at? a1.Args p10).bind fun (x13:aF) =>
  (RecF52.run a0 x13).bind fun (r14:aH × (List Int)) =>
  if 0 <= p10 ∧ p10.toNat < p11.length then
   (p11[p10.toNat]?).bind fun (x15:aH) =>
   if 0 <= p10 ∧ p10.toNat < p12.length then
    (p12[p10.toNat]?).bind fun (x16:List Int) =>
    some (.inl (IntKind.wrap .i64 (p10 + 1),p11.set p10.toNat r14.1,p12.set p10.toNat r14.2))
   else none
  else none
 else
  some (.inr ((p11,p12)))
def mE (a0:aC) (a1:aF) (p10:Int) (p11:List aH) (p12:List (List Int)):Option ((List aH) × (List (List Int))) :=
 eJ (fun (w:Int × (List aH) × (List (List Int)))=>dR a0 a1 w.1 w.2.1 w.2.2) (p10,p11,p12)
def jD (r19:(List aH) × (List (List Int))) (x21:aH):Option ((List Int) × aH) :=
 if 0 <= (IntKind.wrap .i64 (2 - x21.N)) ∧ (IntKind.wrap .i64 (2 - x21.N)).toNat < r19.1.length then
  (r19.1[(IntKind.wrap .i64 (2 - x21.N)).toNat]?).bind fun (x22:aH) =>
  if 0 <= (IntKind.wrap .i64 (2 - x21.N)) ∧ (IntKind.wrap .i64 (2 - x21.N)).toNat < r19.2.length then
   (r19.2[(IntKind.wrap .i64 (2 - x21.N)).toNat]?).bind fun (x23:List Int) =>
   some ((x23,x22))
  else none
 else none
def gL (a1:aF) (r19:(List aH) × (List (List Int))):Option ((List Int) × aH) :=
 (iB a1.Op r19.1).bind fun (r27:aH) =>
 if r27.Known = true then
  some (([],r27))
 else
  (eN r19.2).bind fun (r28:(List Int)) =>
  some ((r28,(aH.mk false 0)))
def gC (a0:aC) (a1:aF):Option ((List Int) × aH) :=
 if 0 <= (a1.Args.length:Int) ∧ (a1.Args.length:Int) <= (a1.Args.length:Int) ∧ 16 * (a1.Args.length:Int) <= 281474976710656 ∧ (a1.Args.length:Int) <= 9223372036854775807 then
  if 0 <= (a1.Args.length:Int) ∧ (a1.Args.length:Int) <= (a1.Args.length:Int) ∧ 24 * (a1.Args.length:Int) <= 281474976710656 ∧ (a1.Args.length:Int) <= 9223372036854775807 then
   (mE a0 a1 0 (List.replicate ((a1.Args.length:Int).toNat) ((aH.mk false 0):aH)) (List.replicate ((a1.Args.length:Int).toNat) ([]:List Int))).bind fun (r19:(List aH) × (List (List Int))) =>
   if (a1.Op == 6) = true then
    if 0 <= 0 ∧ 0 < r19.1.length then
     (r19.1[0]?).bind fun (x20:aH) =>
     if x20.Known = true then
      if 0 <= 0 ∧ 0 < r19.1.length then
       (r19.1[0]?).bind fun (x21:aH) =>
       (jD r19 x21).bind fun (r26:(List Int) × aH) =>
       some ((r26.1,r26.2))
      else none
     else
      (gL a1 r19).bind fun (r31:(List Int) × aH) =>
      some ((r31.1,r31.2))
    else none
   else
    (gL a1 r19).bind fun (r32:(List Int) × aH) =>
    some ((r32.1,r32.2))
  else none
 else none
def lO (a0:aC) (a1:aF):Option (aH × (List Int)) :=
 if (a1.Op == 0) = true then
  if (a1.Op == 0) = true then
   some ((aH.mk true a1.N),[])
  else
   (dN a0 a1).bind fun (r4:Unit ⊕ ((List Int) × aH))=>Sum.elim (fun z5 =>
   (gC a0 a1).bind fun (r35:(List Int) × aH) =>
    some (r35.2,r35.1)) (fun z6 =>
   some (z6.2,z6.1)) r4
 else
  if (a1.Op == 1) = true then
   some ((aH.mk true a1.N),[])
  else
   (dN a0 a1).bind fun (r7:Unit ⊕ ((List Int) × aH))=>Sum.elim (fun z8 =>
   (gC a0 a1).bind fun (r36:(List Int) × aH) =>
    some (r36.2,r36.1)) (fun z9 =>
   some (z9.2,z9.1)) r7
end
def MD:Nat->aC->aF->Option (aH × (List Int))
 | 0=>fun _ _=>none
 | n + 1=>@lO ⟨MD n⟩
def m0 (a0:aC) (a1:aF):Option (aH × (List Int)):=MD 1000 a0 a1
def AU (a0:aF) (a1:List aH):Option (aH) :=
 (sY a0).bind fun (r1:Int × Int) =>
 if (r1.2 != 0) = true then
  some (aH.mk false 0)
 else
  (m0 (aC.mk a1) a0).bind fun (r2:aH × (List Int)) =>
  some r2.1
def oH (a0:aJ) (a1:Int) (a2:List aH):Option (aH × Int) :=
 (yA a0 a1).bind fun (r1:aF × Int) =>
 if (r1.2 != 0) = true then
  some ((aH.mk false 0),r1.2)
 else
  (AU r1.1 a2).bind fun (r2:aH) =>
  (tF a1).bind fun (r3:Int × Bool) =>
  if (r3.1 == 0) = true then
   if r2.Known = true then
    some ((aH.mk r2.Known (if 20000 < (if 0 > r2.N then 0 else r2.N) then 20000 else (if 0 > r2.N then 0 else r2.N))),0)
   else
    some (r2,0)
  else
   some (r2,0)
def iD (a0:aB) (a1 a2:Int) (a3:List Int):Option (Bool) :=
 (gS).bind fun (r1:Bool) =>
 (lA a0).bind fun (r2:Bool) =>
 if (!(r2)) = true then
  some r1
 else
  if decide ((a3.length:Int) > 20) = true then
   some r1
  else
   (mD a0).bind fun (r3:Bool) =>
   if (!(r3)) = true then
    some r1
   else
    (kR a0 a1 a2 a3).bind fun (r4:(List Int) × Int) =>
    if (r4.2 == 1) = true then
     some r1
    else
     if (r4.2 != 0) = true then
      some false
     else
      if ((r4.1.length:Int) == 0) = true then
       some false
      else
       (at? r4.1 (IntKind.wrap .i64 ((r4.1.length:Int) - 1))).bind fun (x5:Int) =>
       if decide (x5 < 0) = true then
        some false
       else
        if decide (x5 ≥ (a0.Orders.length:Int)) = true then
         some false
        else
         (at? a0.Orders x5).bind fun (x6:aJ) =>
         (oH x6 a2 []).bind fun (r7:aH × Int) =>
         if r1 = true then
          if (r7.2 != 4) = true then
           some (r7.2 != 1)
          else
           some false
         else
          some false
end
end Go.Proofs.YtoefdnkjcfoccaaDoor
