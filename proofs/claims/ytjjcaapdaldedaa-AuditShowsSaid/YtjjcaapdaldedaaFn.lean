/- What the functions compute, as plain definitions. Printed by a program. -/
import Derived.Test.YtjjcaapdaldedaaTab
set_option linter.unusedVariables false
set_option linter.unusedSimpArgs false
namespace Go.Proofs.Ytjjcaapdaldedaa
noncomputable section
open Vm
open Go.RowKit
def j6 (a0:ByteArray) (a1 p1:Int) (p2:List dL):Option ((Int × (List dL)) ⊕ ((List dL))) :=
 if decide (p1 < 22) = true then
  if (p1 != a1) = true then
   if (p2.length + 1) * 48 <= 140737488355328 then
    some (.inl (IntKind.wrap .i64 (p1 + 1),p2 ++ [(dL.mk p1 (k6.mk 1 1 []))]))
   else none
  else
   some (.inl (IntKind.wrap .i64 (p1 + 1),p2))
 else
  some (.inr (p2))
def oF (a0:ByteArray) (a1 p1:Int) (p2:List dL):Option ((List dL)) :=
 gB (fun (w:Int × (List dL))=>j6 a0 a1 w.1 w.2) (p1,p2)
def k8 (a0:ByteArray) (a1:Int):Option (b4) :=
 (oF a0 a1 0 []).bind fun (r4:(List dL)) =>
 some (b4.mk a0 false [] r4)
def lS:Option (aB) :=
 (k8 (⟨#[103,101,110,101,118,97]⟩ : ByteArray) (-1)).bind fun (r1:b4) =>
 (k8 (⟨#[108,111,110,100,111,110]⟩ : ByteArray) 6).bind fun (r2:b4) =>
 some (aB.mk [] [] [] [] [(b4.mk r1.Name r1.Accepts [(cW.mk 1 4 true),(cW.mk 6 2 false)] r1.Rules),(b4.mk r2.Name r2.Accepts [(cW.mk 1 1 true)] r2.Rules)] [] [] [])
def jE (a0:aB) (p1:Int) (p2:List ByteArray):Option ((Int × (List ByteArray)) ⊕ ((List ByteArray))) :=
 if decide (p1 < (a0.Cities.length:Int)) = true then
  (at? a0.Cities p1).bind fun (x3:dT) =>
  if (p2.length + 1) * 16 <= 140737488355328 then
   some (.inl (IntKind.wrap .i64 (p1 + 1),p2 ++ [x3.Name]))
  else none
 else
  some (.inr (p2))
def sB (a0:aB) (p1:Int) (p2:List ByteArray):Option ((List ByteArray)) :=
 gB (fun (w:Int × (List ByteArray))=>jE a0 w.1 w.2) (p1,p2)
def jC (a0:aB) (r5:(List ByteArray)) (p6:Int) (p7:List ByteArray):Option ((Int × (List ByteArray)) ⊕ ((List ByteArray))) :=
 if decide (p6 < (a0.Firms.length:Int)) = true then
  (at? a0.Firms p6).bind fun (x8:eV) =>
  if (p7.length + 1) * 16 <= 140737488355328 then
   some (.inl (IntKind.wrap .i64 (p6 + 1),p7 ++ [x8.Name]))
  else none
 else
  some (.inr (p7))
def sA (a0:aB) (r5:(List ByteArray)) (p6:Int) (p7:List ByteArray):Option ((List ByteArray)) :=
 gB (fun (w:Int × (List ByteArray))=>jC a0 r5 w.1 w.2) (p6,p7)
def jG (a0:aB) (r10 r5:(List ByteArray)) (p11:Int) (p12:List ByteArray):Option ((Int × (List ByteArray)) ⊕ ((List ByteArray))) :=
 if decide (p11 < (a0.Orders.length:Int)) = true then
  (at? a0.Orders p11).bind fun (x13:b4) =>
  if (p12.length + 1) * 16 <= 140737488355328 then
   some (.inl (IntKind.wrap .i64 (p11 + 1),p12 ++ [x13.Name]))
  else none
 else
  some (.inr (p12))
def sE (a0:aB) (r10 r5:(List ByteArray)) (p11:Int) (p12:List ByteArray):Option ((List ByteArray)) :=
 gB (fun (w:Int × (List ByteArray))=>jG a0 r10 r5 w.1 w.2) (p11,p12)
def qO (a0:aB):Option ((List ByteArray) × (List ByteArray) × (List ByteArray)) :=
 (sB a0 0 []).bind fun (r5:(List ByteArray)) =>
 (sA a0 r5 0 []).bind fun (r10:(List ByteArray)) =>
 (sE a0 r10 r5 0 []).bind fun (r15:(List ByteArray)) =>
 some (r5,r10,r15)
def gT (a0:ByteArray) (p1 x2:Int) (p3:Bool):Option (Unit ⊕ Unit) :=
 if (!(p3)) = true then
  if (p1 == 0) = true then
   some (.inr (()))
  else
   if (x2 != 95) = true then
    if decide (x2 < 48) = true then
     some (.inr (()))
    else
     if decide (x2 > 57) = true then
      some (.inr (()))
     else
      some (.inl ())
   else
    some (.inl ())
 else
  some (.inl ())
def iK (a0:ByteArray) (p1:Int):Option ((Int) ⊕ (Unit ⊕ Unit)) :=
 if decide (p1 < ((lQ a0).length:Int)) = true then
  (at? (lQ a0) p1).bind fun (x2:Int) =>
  if decide (x2 ≥ 97) = true then
   if decide (x2 <= 122) = true then
    (gT a0 p1 x2 true).bind fun (r4:Unit ⊕ Unit)=>Sum.elim (fun z5 =>
    some (.inl (IntKind.wrap .i64 (p1 + 1)))) (fun z6 =>
    some (.inr (.inr (())))) r4
   else
    if decide (x2 ≥ 65) = true then
     (gT a0 p1 x2 (decide (x2 <= 90))).bind fun (r7:Unit ⊕ Unit)=>Sum.elim (fun z8 =>
     some (.inl (IntKind.wrap .i64 (p1 + 1)))) (fun z9 =>
     some (.inr (.inr (())))) r7
    else
     (gT a0 p1 x2 false).bind fun (r10:Unit ⊕ Unit)=>Sum.elim (fun z11 =>
     some (.inl (IntKind.wrap .i64 (p1 + 1)))) (fun z12 =>
     some (.inr (.inr (())))) r10
  else
   if decide (x2 ≥ 65) = true then
    (gT a0 p1 x2 (decide (x2 <= 90))).bind fun (r13:Unit ⊕ Unit)=>Sum.elim (fun z14 =>
    some (.inl (IntKind.wrap .i64 (p1 + 1)))) (fun z15 =>
    some (.inr (.inr (())))) r13
   else
    (gT a0 p1 x2 false).bind fun (r16:Unit ⊕ Unit)=>Sum.elim (fun z17 =>
    some (.inl (IntKind.wrap .i64 (p1 + 1)))) (fun z18 =>
    some (.inr (.inr (())))) r16
 else
  some (.inr (.inl ()))
def qT (a0:ByteArray) (p1:Int):Option (Unit ⊕ Unit) :=
 gB (fun (w:Int)=>iK a0 w) p1
def pC (a0:ByteArray):Option (Bool) :=
 if (a0.toList == ByteArray.empty.toList) = true then
  some false
 else
  if decide ((a0.size:Int) > 20) = true then
   some false
  else
   (qT a0 0).bind fun (r19:Unit ⊕ Unit)=>Sum.elim (fun z20 =>
   some true) (fun z21 =>
   some false) r19
def eE (a0:List ByteArray) (a1:ByteArray) (p1:Int):Option ((Int) ⊕ (Unit ⊕ Int)) :=
 if decide (p1 < (a0.length:Int)) = true then
  (at? a0 p1).bind fun (x2:ByteArray) =>
  if (a1.toList == x2.toList) = true then
   some (.inr (.inr (p1)))
  else
   some (.inl (IntKind.wrap .i64 (p1 + 1)))
 else
  some (.inr (.inl ()))
def gV (a0:List ByteArray) (a1:ByteArray) (p1:Int):Option (Unit ⊕ Int) :=
 gB (fun (w:Int)=>eE a0 a1 w) p1
def fO (a0:List ByteArray) (a1:ByteArray):Option (Int) :=
 (gV a0 a1 0).bind fun (r4:Unit ⊕ Int)=>Sum.elim (fun z5 =>
 some (-1)) (fun z6 =>
 some z6) r4
def fA (a0:List ByteArray) (a1:ByteArray):Option (Bool) :=
 (fO a0 a1).bind fun (r1:Int) =>
 some (decide (r1 ≥ 0))
def j0 (a0:List ByteArray) (a1:Int):Option (Int) :=
 (at? a0 a1).bind fun (x1:ByteArray) =>
 (pC x1).bind fun (r2:Bool) =>
 if (!(r2)) = true then
  some 2
 else
  if yC a0.length 0 a1 then
   (at? a0 a1).bind fun (x3:ByteArray) =>
   (fA (pD a0 0 a1) x3).bind fun (r4:Bool) =>
   if r4 = true then
    some 5
   else
    some 0
  else none
def qL (a0:Int):Option (Bool) :=
 some true
def k9 (a0:List ByteArray) (p1:Int):Option ((Int) ⊕ (Unit ⊕ Int)) :=
 if decide (p1 < (a0.length:Int)) = true then
  (j0 a0 p1).bind fun (r2:Int) =>
  if (r2 != 0) = true then
   some (.inr (.inr (r2)))
  else
   (qL p1).bind fun (r3:Bool) =>
   if (!(r3)) = true then
    some (.inr (.inr (1)))
   else
    some (.inl (IntKind.wrap .i64 (p1 + 1)))
 else
  some (.inr (.inl ()))
def tQ (a0:List ByteArray) (p1:Int):Option (Unit ⊕ Int) :=
 gB (fun (w:Int)=>k9 a0 w) p1
def nK (a0:List ByteArray) (a1:Int):Option (Int) :=
 if decide ((a0.length:Int) > a1) = true then
  some 6
 else
  (tQ a0 0).bind fun (r5:Unit ⊕ Int)=>Sum.elim (fun z6 =>
  some 0) (fun z7 =>
  some z7) r5
def gU (a0 a1:Int):Option (Bool) :=
 if decide (a0 ≥ 0) = true then
  some (decide (a0 < a1))
 else
  some false
def iM (a0:List Int) (a1 a2 p1:Int):Option ((Int) ⊕ (Unit ⊕ Unit)) :=
 if decide (p1 < (a0.length:Int)) = true then
  (at? a0 p1).bind fun (x2:Int) =>
  if decide (x2 < a1) = true then
   some (.inr (.inr (())))
  else
   if decide (x2 > a2) = true then
    some (.inr (.inr (())))
   else
    if decide (p1 > 0) = true then
     (at? a0 (IntKind.wrap .i64 (p1 - 1))).bind fun (x3:Int) =>
     if decide (x2 <= x3) = true then
      some (.inr (.inr (())))
     else
      some (.inl (IntKind.wrap .i64 (p1 + 1)))
    else
     some (.inl (IntKind.wrap .i64 (p1 + 1)))
 else
  some (.inr (.inl ()))
def qU (a0:List Int) (a1 a2 p1:Int):Option (Unit ⊕ Unit) :=
 gB (fun (w:Int)=>iM a0 a1 a2 w) p1
def iT (a0:List Int) (a1 a2:Int):Option (Bool) :=
 (qU a0 a1 a2 0).bind fun (r4:Unit ⊕ Unit)=>Sum.elim (fun z5 =>
 some true) (fun z6 =>
 some false) r4
def jX (a0:aB) (a1:dT) (p1:Int):Option ((Int) ⊕ (Unit ⊕ Unit)) :=
 if decide (p1 < (a1.Feasts.length:Int)) = true then
  (at? a1.Feasts p1).bind fun (x2:Int) =>
  if decide ((x2.tmod 100) < 1) = true then
   some (.inr (.inr (())))
  else
   if decide ((x2.tmod 100) > 31) = true then
    some (.inr (.inr (())))
   else
    some (.inl (IntKind.wrap .i64 (p1 + 1)))
 else
  some (.inr (.inl ()))
def tW (a0:aB) (a1:dT) (p1:Int):Option (Unit ⊕ Unit) :=
 gB (fun (w:Int)=>jX a0 a1 w) p1
def sS (a0:aB) (a1:dT):Option (Bool) :=
 (tW a0 a1 0).bind fun (r3:Unit ⊕ Unit)=>Sum.elim (fun z4 =>
 if decide ((a1.Feasts.length:Int) > 60) = true then
   some false
  else
   if decide ((a1.Shut.length:Int) > 200) = true then
    some false
   else
    (gU a1.Order (a0.Orders.length:Int)).bind fun (r6:Bool) =>
    if (!(r6)) = true then
     some false
    else
     (gU a1.Currency (a0.Currencies.length:Int)).bind fun (r7:Bool) =>
     if (!(r7)) = true then
      some false
     else
      (iT a1.Rest 0 6).bind fun (r8:Bool) =>
      if r8 = true then
       (iT a1.Feasts 101 1231).bind fun (r9:Bool) =>
       if r9 = true then
        (iT a1.Shut 0 100000).bind fun (r10:Bool) =>
        some r10
       else
        some false
      else
       some false) (fun z5 =>
 some false) r3
def kF (a0:Int) (a1:aB):Option (Bool) :=
 (at? a1.Cities a0).bind fun (x1:dT) =>
 (sS a1 x1).bind fun (r2:Bool) =>
 some r2
def kS (a0:List ByteArray) (a2:aB) (p1:Int):Option ((Int) ⊕ (Unit ⊕ Int)) :=
 if decide (p1 < (a0.length:Int)) = true then
  (j0 a0 p1).bind fun (r2:Int) =>
  if (r2 != 0) = true then
   some (.inr (.inr (r2)))
  else
   (kF p1 a2).bind fun (r3:Bool) =>
   if (!(r3)) = true then
    some (.inr (.inr (1)))
   else
    some (.inl (IntKind.wrap .i64 (p1 + 1)))
 else
  some (.inr (.inl ()))
def tJ (a0:List ByteArray) (a2:aB) (p1:Int):Option (Unit ⊕ Int) :=
 gB (fun (w:Int)=>kS a0 a2 w) p1
def nP (a0:List ByteArray) (a1:Int) (a2:aB):Option (Int) :=
 if decide ((a0.length:Int) > a1) = true then
  some 6
 else
  (tJ a0 a2 0).bind fun (r5:Unit ⊕ Int)=>Sum.elim (fun z6 =>
  some 0) (fun z7 =>
  some z7) r5
def i7 (a0:Int) (a1:aB):Option (Bool) :=
 (at? a1.Firms a0).bind fun (x1:eV) =>
 (gU x1.City (a1.Cities.length:Int)).bind fun (r2:Bool) =>
 if r2 = true then
  (at? a1.Firms a0).bind fun (x3:eV) =>
  (gU x3.Group (a1.Groups.length:Int)).bind fun (r4:Bool) =>
  some r4
 else
  some false
def kX (a0:List ByteArray) (a2:aB) (p1:Int):Option ((Int) ⊕ (Unit ⊕ Int)) :=
 if decide (p1 < (a0.length:Int)) = true then
  (j0 a0 p1).bind fun (r2:Int) =>
  if (r2 != 0) = true then
   some (.inr (.inr (r2)))
  else
   (i7 p1 a2).bind fun (r3:Bool) =>
   if (!(r3)) = true then
    some (.inr (.inr (1)))
   else
    some (.inl (IntKind.wrap .i64 (p1 + 1)))
 else
  some (.inr (.inl ()))
def tH (a0:List ByteArray) (a2:aB) (p1:Int):Option (Unit ⊕ Int) :=
 gB (fun (w:Int)=>kX a0 a2 w) p1
def nT (a0:List ByteArray) (a1:Int) (a2:aB):Option (Int) :=
 if decide ((a0.length:Int) > a1) = true then
  some 6
 else
  (tH a0 a2 0).bind fun (r5:Unit ⊕ Int)=>Sum.elim (fun z6 =>
  some 0) (fun z7 =>
  some z7) r5
def iZ (a0:b4) (p1:Int) (p2:List Int):Option ((Int × (List Int)) ⊕ (((List Int)) ⊕ Unit)) :=
 if decide (p1 < (a0.Choices.length:Int)) = true then
  (at? a0.Choices p1).bind fun (x3:cW) =>
  if (p2.length + 1) * 8 <= 140737488355328 then
   (gU x3.By 5).bind fun (r4:Bool) =>
   if (!(r4)) = true then
    some (.inr (.inr (())))
   else
    some (.inl (IntKind.wrap .i64 (p1 + 1),p2 ++ [x3.Ask]))
  else none
 else
  some (.inr (.inl p2))
def sD (a0:b4) (p1:Int) (p2:List Int):Option (((List Int)) ⊕ Unit) :=
 gB (fun (w:Int × (List Int))=>iZ a0 w.1 w.2) (p1,p2)
def jI (a0:b4) (z7:(List Int)) (p9:Int) (p10:List Int):Option ((Int × (List Int)) ⊕ ((List Int))) :=
 if decide (p9 < (a0.Rules.length:Int)) = true then
  (at? a0.Rules p9).bind fun (x11:dL) =>
  if (p10.length + 1) * 8 <= 140737488355328 then
   some (.inl (IntKind.wrap .i64 (p9 + 1),p10 ++ [x11.Ask]))
  else none
 else
  some (.inr (p10))
def sG (a0:b4) (z7:(List Int)) (p9:Int) (p10:List Int):Option ((List Int)) :=
 gB (fun (w:Int × (List Int))=>jI a0 z7 w.1 w.2) (p9,p10)
def qP (a0:b4):Option (Bool) :=
 (sD a0 0 []).bind fun (r6:((List Int)) ⊕ Unit)=>Sum.elim (fun z7 =>
 (sG a0 z7 0 []).bind fun (r13:(List Int)) =>
  (iT z7 0 21).bind fun (r14:Bool) =>
  if r14 = true then
   (iT r13 0 21).bind fun (r15:Bool) =>
   some r15
  else
   some false) (fun z8 =>
 some false) r6
def kE (a0:Int) (a1:aB):Option (Bool) :=
 (at? a1.Orders a0).bind fun (x1:b4) =>
 (qP x1).bind fun (r2:Bool) =>
 some r2
def k7 (a0:List ByteArray) (a2:aB) (p1:Int):Option ((Int) ⊕ (Unit ⊕ Int)) :=
 if decide (p1 < (a0.length:Int)) = true then
  (j0 a0 p1).bind fun (r2:Int) =>
  if (r2 != 0) = true then
   some (.inr (.inr (r2)))
  else
   (kE p1 a2).bind fun (r3:Bool) =>
   if (!(r3)) = true then
    some (.inr (.inr (1)))
   else
    some (.inl (IntKind.wrap .i64 (p1 + 1)))
 else
  some (.inr (.inl ()))
def tL (a0:List ByteArray) (a2:aB) (p1:Int):Option (Unit ⊕ Int) :=
 gB (fun (w:Int)=>k7 a0 a2 w) p1
def nJ (a0:List ByteArray) (a1:Int) (a2:aB):Option (Int) :=
 if decide ((a0.length:Int) > a1) = true then
  some 6
 else
  (tL a0 a2 0).bind fun (r5:Unit ⊕ Int)=>Sum.elim (fun z6 =>
  some 0) (fun z7 =>
  some z7) r5
def gZ (a0:aB) (p1:Int) (x2:dB) (p5:Int):Option ((Int) ⊕ (Unit ⊕ Unit)) :=
 if decide (p5 < ((pD a0.Usances 0 p1).length:Int)) = true then
  (at? (pD a0.Usances 0 p1) p5).bind fun (x6:dB) =>
  if (x6.From == x2.From) = true then
   if (x6.To == x2.To) = true then
    some (.inr (.inr (())))
   else
    some (.inl (IntKind.wrap .i64 (p5 + 1)))
  else
   some (.inl (IntKind.wrap .i64 (p5 + 1)))
 else
  some (.inr (.inl ()))
def qB (a0:aB) (p1:Int) (x2:dB) (p5:Int):Option (Unit ⊕ Unit) :=
 gB (fun (w:Int)=>gZ a0 p1 x2 w) p5
def gY (a0:aB) (p1:Int):Option ((Int) ⊕ (Unit ⊕ Int)) :=
 if decide (p1 < (a0.Usances.length:Int)) = true then
  (at? a0.Usances p1).bind fun (x2:dB) =>
  (gU x2.From (a0.Cities.length:Int)).bind fun (r3:Bool) =>
  if (!(r3)) = true then
   some (.inr (.inr (1)))
  else
   (gU x2.To (a0.Cities.length:Int)).bind fun (r4:Bool) =>
   if (!(r4)) = true then
    some (.inr (.inr (1)))
   else
    if decide (x2.Days < 1) = true then
     some (.inr (.inr (1)))
    else
     if decide (x2.Days > 20000) = true then
      some (.inr (.inr (1)))
     else
      if yC a0.Usances.length 0 p1 then
       (qB a0 p1 x2 0).bind fun (r7:Unit ⊕ Unit)=>Sum.elim (fun z8 =>
       some (.inl (IntKind.wrap .i64 (p1 + 1)))) (fun z9 =>
       some (.inr (.inr (5)))) r7
      else none
 else
  some (.inr (.inl ()))
def pS (a0:aB) (p1:Int):Option (Unit ⊕ Int) :=
 gB (fun (w:Int)=>gY a0 w) p1
def nO (a0:aB):Option (Int) :=
 if decide ((a0.Usances.length:Int) > 100) = true then
  some 6
 else
  (pS a0 0).bind fun (r11:Unit ⊕ Int)=>Sum.elim (fun z12 =>
  some 0) (fun z13 =>
  some z13) r11
def jW (a0:aB) (p1:Int):Option ((Int) ⊕ (Unit ⊕ Unit)) :=
 if decide (p1 < (a0.Rates.length:Int)) = true then
  (at? a0.Rates p1).bind fun (x2:eN) =>
  (gU x2.From (a0.Currencies.length:Int)).bind fun (r3:Bool) =>
  if (!(r3)) = true then
   some (.inr (.inr (())))
  else
   (gU x2.To (a0.Currencies.length:Int)).bind fun (r4:Bool) =>
   if (!(r4)) = true then
    some (.inr (.inr (())))
   else
    if (x2.From == x2.To) = true then
     some (.inr (.inr (())))
    else
     (gU (IntKind.wrap .i64 (x2.Num - 1)) 1073741824).bind fun (r5:Bool) =>
     if (!(r5)) = true then
      some (.inr (.inr (())))
     else
      (gU (IntKind.wrap .i64 (x2.Den - 1)) 1073741824).bind fun (r6:Bool) =>
      if (!(r6)) = true then
       some (.inr (.inr (())))
      else
       (gU x2.Since 100001).bind fun (r7:Bool) =>
       if (!(r7)) = true then
        some (.inr (.inr (())))
       else
        some (.inl (IntKind.wrap .i64 (p1 + 1)))
 else
  some (.inr (.inl ()))
def tE (a0:aB) (p1:Int):Option (Unit ⊕ Unit) :=
 gB (fun (w:Int)=>jW a0 w) p1
def jY (a0:aB) (p11:Int):Option ((Int) ⊕ (Unit ⊕ Unit)) :=
 if decide (p11 < (a0.Halts.length:Int)) = true then
  (at? a0.Halts p11).bind fun (x12:eY) =>
  (gU x12.Order (a0.Orders.length:Int)).bind fun (r13:Bool) =>
  if (!(r13)) = true then
   some (.inr (.inr (())))
  else
   if decide (x12.From < 0) = true then
    some (.inr (.inr (())))
   else
    if decide (x12.From > x12.To) = true then
     some (.inr (.inr (())))
    else
     if decide (x12.To > 100000) = true then
      some (.inr (.inr (())))
     else
      some (.inl (IntKind.wrap .i64 (p11 + 1)))
 else
  some (.inr (.inl ()))
def tB (a0:aB) (p11:Int):Option (Unit ⊕ Unit) :=
 gB (fun (w:Int)=>jY a0 w) p11
def sQ (a0:aB):Option (Int) :=
 if decide ((a0.Rates.length:Int) > 100) = true then
  some 6
 else
  (tE a0 0).bind fun (r8:Unit ⊕ Unit)=>Sum.elim (fun z9 =>
  if decide ((a0.Halts.length:Int) > 20) = true then
    some 6
   else
    (tB a0 0).bind fun (r14:Unit ⊕ Unit)=>Sum.elim (fun z15 =>
    some 0) (fun z16 =>
    some 1) r14) (fun z10 =>
  some 1) r8
def jF (a0:aB) (r1:(List ByteArray) × (List ByteArray) × (List ByteArray)) (p4:Int):Option ((Int) ⊕ (Unit ⊕ Unit)) :=
 if decide (p4 < (a0.Groups.length:Int)) = true then
  (at? a0.Groups p4).bind fun (x5:eH) =>
  (gU x5.Grade 10).bind fun (r6:Bool) =>
  if (!(r6)) = true then
   some (.inr (.inr (())))
  else
   some (.inl (IntKind.wrap .i64 (p4 + 1)))
 else
  some (.inr (.inl ()))
def sC (a0:aB) (r1:(List ByteArray) × (List ByteArray) × (List ByteArray)) (p4:Int):Option (Unit ⊕ Unit) :=
 gB (fun (w:Int)=>jF a0 r1 w) p4
def lG (a0:aB):Option (Int) :=
 (qO a0).bind fun (r1:(List ByteArray) × (List ByteArray) × (List ByteArray)) =>
 (nK a0.Currencies 8).bind fun (r2:Int) =>
 if (r2 != 0) = true then
  some r2
 else
  (nP r1.1 40 a0).bind fun (r3:Int) =>
  if (r3 != 0) = true then
   some r3
  else
   if decide ((a0.Groups.length:Int) > 20) = true then
    some 6
   else
    (sC a0 r1 0).bind fun (r7:Unit ⊕ Unit)=>Sum.elim (fun z8 =>
    (nT r1.2.1 200 a0).bind fun (r10:Int) =>
     if (r10 != 0) = true then
      some r10
     else
      (nJ r1.2.2 20 a0).bind fun (r11:Int) =>
      if (r11 != 0) = true then
       some r11
      else
       (nO a0).bind fun (r12:Int) =>
       if (r12 != 0) = true then
        some r12
       else
        (sQ a0).bind fun (r13:Int) =>
        some r13) (fun z9 =>
    some 1) r7
def iI (a0:b4) (a1 p1:Int):Option ((Int) ⊕ (Unit ⊕ (Int × Bool))) :=
 if decide (p1 < (a0.Choices.length:Int)) = true then
  (at? a0.Choices p1).bind fun (x2:cW) =>
  if (x2.Ask == a1) = true then
   if (x2.By != 0) = true then
    some (.inr (.inr ((x2.By,x2.Whole))))
   else
    some (.inl (IntKind.wrap .i64 (p1 + 1)))
  else
   some (.inl (IntKind.wrap .i64 (p1 + 1)))
 else
  some (.inr (.inl ()))
def qN (a0:b4) (a1 p1:Int):Option (Unit ⊕ (Int × Bool)) :=
 gB (fun (w:Int)=>iI a0 a1 w) p1
def lI (a0:b4) (a1:Int):Option (Int × Bool) :=
 (qN a0 a1 0).bind fun (r5:Unit ⊕ (Int × Bool))=>Sum.elim (fun z6 =>
 some (0,false)) (fun z7 =>
 some (z7.1,z7.2)) r5
def aQ (a0:List Int):Option ((List Int)):=if a0.length * 8 <= 140737488355328 then some a0 else none
def mH (a0:dL) (a1:Int):Option (Bool) :=
 some (a0.Ask == a1)
def dN (a0:List dL) (a1 p1:Int):Option ((Int) ⊕ (Unit ⊕ Int)) :=
 if decide (p1 < (a0.length:Int)) = true then
  (at? a0 p1).bind fun (x2:dL) =>
  (mH x2 a1).bind fun (r3:Bool) =>
  if r3 = true then
   some (.inr (.inr (p1)))
  else
   some (.inl (IntKind.wrap .i64 (p1 + 1)))
 else
  some (.inr (.inl ()))
def fD (a0:List dL) (a1 p1:Int):Option (Unit ⊕ Int) :=
 gB (fun (w:Int)=>dN a0 a1 w) p1
def eU (a0:List dL) (a1:Int):Option (Int) :=
 (fD a0 a1 0).bind fun (r5:Unit ⊕ Int)=>Sum.elim (fun z6 =>
 some (-1)) (fun z7 =>
 some z7) r5
def eJ (a0:List dL) (a1:Int):Option (Bool) :=
 (eU a0 a1).bind fun (r1:Int) =>
 some (decide (r1 ≥ 0))
def fZ (a0:b4) (a1:Int):Option (Bool) :=
 (eJ a0.Rules a1).bind fun (r1:Bool) =>
 some r1
def fG (a0:List Int) (a1 p1:Int):Option ((Int) ⊕ (Unit ⊕ Int)) :=
 if decide (p1 < (a0.length:Int)) = true then
  (at? a0 p1).bind fun (x2:Int) =>
  if (a1 == x2) = true then
   some (.inr (.inr (p1)))
  else
   some (.inl (IntKind.wrap .i64 (p1 + 1)))
 else
  some (.inr (.inl ()))
def j7 (a0:List Int) (a1 p1:Int):Option (Unit ⊕ Int) :=
 gB (fun (w:Int)=>fG a0 a1 w) p1
def jR (a0:List Int) (a1:Int):Option (Int) :=
 (j7 a0 a1 0).bind fun (r4:Unit ⊕ Int)=>Sum.elim (fun z5 =>
 some (-1)) (fun z6 =>
 some z6) r4
def eR (a0:List Int) (a1:Int):Option (Bool) :=
 (jR a0 a1).bind fun (r1:Int) =>
 some (decide (r1 ≥ 0))
def lL (a0:Int):Option (Bool) :=
 some (a0 != a0)
def lJ (a0 a1:Int):Option (Int) :=
 (lL a0).bind fun (r1:Bool) =>
 (lL a1).bind fun (r2:Bool) =>
 if r1 = true then
  if r2 = true then
   some 0
  else
   some (-1)
 else
  if r2 = true then
   some 1
  else
   if decide (a0 < a1) = true then
    some (-1)
   else
    if decide (a0 > a1) = true then
     some 1
    else
     some 0
def eA (a0 a1:List Int) (p1:Int):Option ((Int) ⊕ (Unit ⊕ Int)) :=
 if decide (p1 < (a0.length:Int)) = true then
  (at? a0 p1).bind fun (x2:Int) =>
  if decide (p1 ≥ (a1.length:Int)) = true then
   some (.inr (.inr (1)))
  else
   (at? a1 p1).bind fun (x3:Int) =>
   (lJ x2 x3).bind fun (r4:Int) =>
   if (r4 != 0) = true then
    some (.inr (.inr (r4)))
   else
    some (.inl (IntKind.wrap .i64 (p1 + 1)))
 else
  some (.inr (.inl ()))
def iU (a0 a1:List Int) (p1:Int):Option (Unit ⊕ Int) :=
 gB (fun (w:Int)=>eA a0 a1 w) p1
def fU (a0 a1:List Int):Option (Int) :=
 (iU a0 a1 0).bind fun (r6:Unit ⊕ Int)=>Sum.elim (fun z7 =>
 if decide ((a0.length:Int) < (a1.length:Int)) = true then
   some (-1)
  else
   some 0) (fun z8 =>
 some z8) r6
def dP (a0 a1:aA):Option (Bool) :=
 if ((a0.Path.length:Int) != (a1.Path.length:Int)) = true then
  some (decide ((a0.Path.length:Int) < (a1.Path.length:Int)))
 else
  (fU a0.Path a1.Path).bind fun (r1:Int) =>
  if (r1 != 0) = true then
   some (decide (r1 < 0))
  else
   (fU a0.Places a1.Places).bind fun (r2:Int) =>
   some (decide (r2 < 0))
def oZ (a1 a2:Int) (r4 r5:(List Int)) (p9:Int) (p10:List Int):Option ((Int × (List Int)) ⊕ ((List Int))) :=
 if decide (p9 < (r4.length:Int)) = true then
  if 0 <= p9 ∧ p9.toNat < p10.length then
   (p10[p9.toNat]?).bind fun (x11:Int) =>
   if 0 <= p9 ∧ p9.toNat < p10.length then
    (p10[p9.toNat]?).bind fun (x12:Int) =>
    some (.inl (IntKind.wrap .i64 (p9 + 1),p10.set p9.toNat (if x11 > 0 then x11 else 0)))
   else none
  else none
 else
  some (.inr (p10))
def nM (a1 a2:Int) (r4 r5:(List Int)) (p9:Int) (p10:List Int):Option ((List Int)) :=
 gB (fun (w:Int × (List Int))=>oZ a1 a2 r4 r5 w.1 w.2) (p9,p10)
def oE (a0:aB) (a1 a2 p16:Int) (p17 p18:Option aA) (p19 p20:List Int) (r23 r24:(List Int)) (r3:Int × Bool) (x1 x15 p28:Int) (p29:List Int):Option ((Int × (List Int)) ⊕ ((List Int))) :=
 if decide (p28 < (r23.length:Int)) = true then
  if 0 <= p28 ∧ p28.toNat < p29.length then
   (p29[p28.toNat]?).bind fun (x30:Int) =>
   if 0 <= p28 ∧ p28.toNat < p29.length then
    (p29[p28.toNat]?).bind fun (x31:Int) =>
    some (.inl (IntKind.wrap .i64 (p28 + 1),p29.set p28.toNat (if x30 > 0 then x30 else 0)))
   else none
  else none
 else
  some (.inr (p29))
def nL (a0:aB) (a1 a2 p16:Int) (p17 p18:Option aA) (p19 p20:List Int) (r23 r24:(List Int)) (r3:Int × Bool) (x1 x15 p28:Int) (p29:List Int):Option ((List Int)) :=
 gB (fun (w:Int × (List Int))=>oE a0 a1 a2 p16 p17 p18 p19 p20 r23 r24 r3 x1 x15 w.1 w.2) (p28,p29)
def oM (a0:aB) (a1 a2 p16:Int) (p17 p18:Option aA) (p19 p20:List Int) (r3:Int × Bool) (r40 r41:(List Int)) (x1 x15 p45:Int) (p46:List Int):Option ((Int × (List Int)) ⊕ ((List Int))) :=
 if decide (p45 < (r40.length:Int)) = true then
  if 0 <= p45 ∧ p45.toNat < p46.length then
   (p46[p45.toNat]?).bind fun (x47:Int) =>
   if 0 <= p45 ∧ p45.toNat < p46.length then
    (p46[p45.toNat]?).bind fun (x48:Int) =>
    some (.inl (IntKind.wrap .i64 (p45 + 1),p46.set p45.toNat (if x47 > 0 then x47 else 0)))
   else none
  else none
 else
  some (.inr (p46))
def nH (a0:aB) (a1 a2 p16:Int) (p17 p18:Option aA) (p19 p20:List Int) (r3:Int × Bool) (r40 r41:(List Int)) (x1 x15 p45:Int) (p46:List Int):Option ((List Int)) :=
 gB (fun (w:Int × (List Int))=>oM a0 a1 a2 p16 p17 p18 p19 p20 r3 r40 r41 x1 x15 w.1 w.2) (p45,p46)
def oQ (a0:aB) (a1 a2 p16 p54:Int) (p55 p56:Option aA) (p57 p58:List Int) (r3 r39:Int × Bool) (r61 r62:(List Int)) (x1 x15 x37 x53 p66:Int) (p67:List Int):Option ((Int × (List Int)) ⊕ ((List Int))) :=
 if decide (p66 < (r61.length:Int)) = true then
  if 0 <= p66 ∧ p66.toNat < p67.length then
   (p67[p66.toNat]?).bind fun (x68:Int) =>
   if 0 <= p66 ∧ p66.toNat < p67.length then
    (p67[p66.toNat]?).bind fun (x69:Int) =>
    some (.inl (IntKind.wrap .i64 (p66 + 1),p67.set p66.toNat (if x68 > 0 then x68 else 0)))
   else none
  else none
 else
  some (.inr (p67))
def nS (a0:aB) (a1 a2 p16 p54:Int) (p55 p56:Option aA) (p57 p58:List Int) (r3 r39:Int × Bool) (r61 r62:(List Int)) (x1 x15 x37 x53 p66:Int) (p67:List Int):Option ((List Int)) :=
 gB (fun (w:Int × (List Int))=>oQ a0 a1 a2 p16 p54 p55 p56 p57 p58 r3 r39 r61 r62 x1 x15 x37 x53 w.1 w.2) (p66,p67)
def oK (a0:aB) (a1 a2 p16 p54:Int) (p55 p56:Option aA) (p57 p58:List Int) (r3 r39:Int × Bool) (r78 r79:(List Int)) (x1 x15 x37 x53 p83:Int) (p84:List Int):Option ((Int × (List Int)) ⊕ ((List Int))) :=
 if decide (p83 < (r78.length:Int)) = true then
  if 0 <= p83 ∧ p83.toNat < p84.length then
   (p84[p83.toNat]?).bind fun (x85:Int) =>
   if 0 <= p83 ∧ p83.toNat < p84.length then
    (p84[p83.toNat]?).bind fun (x86:Int) =>
    some (.inl (IntKind.wrap .i64 (p83 + 1),p84.set p83.toNat (if x85 > 0 then x85 else 0)))
   else none
  else none
 else
  some (.inr (p84))
def nW (a0:aB) (a1 a2 p16 p54:Int) (p55 p56:Option aA) (p57 p58:List Int) (r3 r39:Int × Bool) (r78 r79:(List Int)) (x1 x15 x37 x53 p83:Int) (p84:List Int):Option ((List Int)) :=
 gB (fun (w:Int × (List Int))=>oK a0 a1 a2 p16 p54 p55 p56 p57 p58 r3 r39 r78 r79 x1 x15 x37 x53 w.1 w.2) (p83,p84)
def oI (a0:aB) (a1 a2 p16 p54 p92:Int) (p93 p94:Option aA) (p95 p96:List Int) (r100:(List Int)) (r3 r39 r77:Int × Bool) (r99:(List Int)) (x1 x15 x37 x53 x75 x91 p104:Int) (p105:List Int):Option ((Int × (List Int)) ⊕ ((List Int))) :=
 if decide (p104 < (r99.length:Int)) = true then
  if 0 <= p104 ∧ p104.toNat < p105.length then
   (p105[p104.toNat]?).bind fun (x106:Int) =>
   if 0 <= p104 ∧ p104.toNat < p105.length then
    (p105[p104.toNat]?).bind fun (x107:Int) =>
    some (.inl (IntKind.wrap .i64 (p104 + 1),p105.set p104.toNat (if x106 > 0 then x106 else 0)))
   else none
  else none
 else
  some (.inr (p105))
def nF (a0:aB) (a1 a2 p16 p54 p92:Int) (p93 p94:Option aA) (p95 p96:List Int) (r100:(List Int)) (r3 r39 r77:Int × Bool) (r99:(List Int)) (x1 x15 x37 x53 x75 x91 p104:Int) (p105:List Int):Option ((List Int)) :=
 gB (fun (w:Int × (List Int))=>oI a0 a1 a2 p16 p54 p92 p93 p94 p95 p96 r100 r3 r39 r77 r99 x1 x15 x37 x53 x75 x91 w.1 w.2) (p104,p105)
def n9 (a0:aB) (a1 a2:Int) (p117 p118:List Int) (p16 p54 p92:Int) (p93 p94:Option aA) (p95 p96:List Int) (r3 r39 r77:Int × Bool) (x1 x15 x37 x53 x75 x91 p122:Int) (p123:List Int):Option ((Int × (List Int)) ⊕ ((List Int))) :=
 if decide (p122 < (p117.length:Int)) = true then
  if 0 <= p122 ∧ p122.toNat < p123.length then
   (p123[p122.toNat]?).bind fun (x124:Int) =>
   if 0 <= p122 ∧ p122.toNat < p123.length then
    (p123[p122.toNat]?).bind fun (x125:Int) =>
    some (.inl (IntKind.wrap .i64 (p122 + 1),p123.set p122.toNat (if x124 > 0 then x124 else 0)))
   else none
  else none
 else
  some (.inr (p123))
def nR (a0:aB) (a1 a2:Int) (p117 p118:List Int) (p16 p54 p92:Int) (p93 p94:Option aA) (p95 p96:List Int) (r3 r39 r77:Int × Bool) (x1 x15 x37 x53 x75 x91 p122:Int) (p123:List Int):Option ((List Int)) :=
 gB (fun (w:Int × (List Int))=>n9 a0 a1 a2 p117 p118 p16 p54 p92 p93 p94 p95 p96 r3 r39 r77 x1 x15 x37 x53 x75 x91 w.1 w.2) (p122,p123)
def qR (a0:aB) (a1 a2:Int) (p117 p118:List Int) (p16 p54 p92:Int) (p93 p94:Option aA) (p95 p96:List Int) (r3 r39 r77:Int × Bool) (x1 x15 x37 x53 x75 x91:Int):Option ((Option aA)) :=
 (nR a0 a1 a2 p117 p118 p16 p54 p92 p93 p94 p95 p96 r3 r39 r77 x1 x15 x37 x53 x75 x91 0 p117).bind fun (r127:(List Int)) =>
 if p94.isNone = true then
  some (some (aA.mk 1 a1 a2 r127 p118))
 else
  (p94).bind fun (x128:aA) =>
  (dP (aA.mk 1 a1 a2 r127 p118) x128).bind fun (r129:Bool) =>
  if r129 = true then
   some (some (aA.mk 1 a1 a2 r127 p118))
  else
   some (p94)
def oT (a0:aB) (a1 a2:Int) (p117 p118:List Int) (p16 p54 p92:Int) (p93 p94:Option aA) (p95 p96:List Int) (r3 r39 r77:Int × Bool) (x1 x15 x37 x53 x75 x91 p132:Int) (p133:List Int):Option ((Int × (List Int)) ⊕ ((List Int))) :=
 if decide (p132 < (p117.length:Int)) = true then
  if 0 <= p132 ∧ p132.toNat < p133.length then
   (p133[p132.toNat]?).bind fun (x134:Int) =>
   if 0 <= p132 ∧ p132.toNat < p133.length then
    (p133[p132.toNat]?).bind fun (x135:Int) =>
    some (.inl (IntKind.wrap .i64 (p132 + 1),p133.set p132.toNat (if x134 > 0 then x134 else 0)))
   else none
  else none
 else
  some (.inr (p133))
def nG (a0:aB) (a1 a2:Int) (p117 p118:List Int) (p16 p54 p92:Int) (p93 p94:Option aA) (p95 p96:List Int) (r3 r39 r77:Int × Bool) (x1 x15 x37 x53 x75 x91 p132:Int) (p133:List Int):Option ((List Int)) :=
 gB (fun (w:Int × (List Int))=>oT a0 a1 a2 p117 p118 p16 p54 p92 p93 p94 p95 p96 r3 r39 r77 x1 x15 x37 x53 x75 x91 w.1 w.2) (p132,p133)
def qC (a0:aB) (a1 a2:Int) (p117 p118:List Int) (p16 p54 p92:Int) (p93 p94:Option aA) (p95 p96:List Int) (r3 r39 r77:Int × Bool) (x1 x15 x37 x53 x75 x91:Int):Option ((Option aA)) :=
 (nG a0 a1 a2 p117 p118 p16 p54 p92 p93 p94 p95 p96 r3 r39 r77 x1 x15 x37 x53 x75 x91 0 p117).bind fun (r137:(List Int)) =>
 if p93.isNone = true then
  some (some (aA.mk 0 a1 a2 r137 p118))
 else
  (p93).bind fun (x138:aA) =>
  (dP (aA.mk 0 a1 a2 r137 p118) x138).bind fun (r139:Bool) =>
  if r139 = true then
   some (some (aA.mk 0 a1 a2 r137 p118))
  else
   some (p93)
def gN (a0:aB) (a1 a2 p16 p54 p92:Int) (p93 p94:Option aA) (p95 p96:List Int) (r3 r39 r77:Int × Bool) (x1 x15 x37 x53 x75 x91:Int) (p116:Bool) (p117 p118:List Int):Option (((Option aA) × (Option aA)) ⊕ Unit) :=
 if p116 = true then
  (qR a0 a1 a2 p117 p118 p16 p54 p92 p93 p94 p95 p96 r3 r39 r77 x1 x15 x37 x53 x75 x91).bind fun (r131:(Option aA)) =>
  some (.inl (p93,r131))
 else
  if 0 <= (IntKind.wrap .i64 (((p96 ++ [p92]).length:Int) - 1)) ∧ (IntKind.wrap .i64 (((p96 ++ [p92]).length:Int) - 1)).toNat < (p96 ++ [p92]).length then
   ((p96 ++ [p92])[(IntKind.wrap .i64 (((p96 ++ [p92]).length:Int) - 1)).toNat]?).bind fun (x119:Int) =>
   (at? a0.Orders x119).bind fun (x120:b4) =>
   (fZ x120 a2).bind fun (r121:Bool) =>
   if r121 = true then
    some (.inr (()))
   else
    (qC a0 a1 a2 p117 p118 p16 p54 p92 p93 p94 p95 p96 r3 r39 r77 x1 x15 x37 x53 x75 x91).bind fun (r141:(Option aA)) =>
    some (.inl (r141,p94))
  else none
def kN (a0:aB) (a1 a2 p16 p54 p92:Int) (p93 p94:Option aA) (p95 p96:List Int) (r3 r39 r77:Int × Bool) (x1 x15 x37 x53 x75 x91:Int):Option ((Option aA) × (Option aA)) :=
 if r77.2 = true then
  (at? a0.Orders p92).bind fun (x113:b4) =>
  (aQ (p95.set r77.1.toNat p92)).bind fun (r114:(List Int)) =>
  (aQ (p96 ++ [p92])).bind fun (r115:(List Int)) =>
  (gN a0 a1 a2 p16 p54 p92 p93 p94 p95 p96 r3 r39 r77 x1 x15 x37 x53 x75 x91 (!(x113.Accepts)) r114 r115).bind fun (r144:((Option aA) × (Option aA)) ⊕ Unit)=>Sum.elim (fun z145 =>
  some ((z145.1,z145.2))) (fun z146 =>
  some ((p93,p94))) r144
 else
  (aQ (p95.set r77.1.toNat p92)).bind fun (r147:(List Int)) =>
  (aQ (p96 ++ [p92])).bind fun (r148:(List Int)) =>
  (gN a0 a1 a2 p16 p54 p92 p93 p94 p95 p96 r3 r39 r77 x1 x15 x37 x53 x75 x91 false r147 r148).bind fun (r149:((Option aA) × (Option aA)) ⊕ Unit)=>Sum.elim (fun z150 =>
  some ((z150.1,z150.2))) (fun z151 =>
  some ((p93,p94))) r149
def kL (a0:aB) (a1 a2 p16 p54 p92:Int) (p95 p96:List Int) (r3 r39 r77:Int × Bool) (x1 x15 x37 x53 x75 x91:Int) (p156 p157:Option aA):Option (Unit) :=
 if 0 <= (IntKind.wrap .i64 (((p96 ++ [p92]).length:Int) - 1)) ∧ (IntKind.wrap .i64 (((p96 ++ [p92]).length:Int) - 1)).toNat <= (p96 ++ [p92]).length then
  some (())
 else none
def fM (a0:aB) (a1 a2 p16 p54 p92:Int) (p95:List Int) (r3 r39 r77:Int × Bool) (x1 x15 x37 x53 x75 x91:Int) (p160 p161:Option aA) (p162:List Int):Option ((List Int)) :=
 if (x91 == (-1)) = true then
  if 0 <= r77.1 ∧ r77.1.toNat < (p95.set r77.1.toNat p92).length then
   ((p95.set r77.1.toNat p92)[r77.1.toNat]?).bind fun (x163:Int) =>
   some ((p95.set r77.1.toNat p92).set r77.1.toNat (-1))
  else none
 else
  some (p95.set r77.1.toNat p92)
def kO (a0:aB) (a1 a2 p16 p54 p92:Int) (p93 p94:Option aA) (p95 p96:List Int) (r3 r39 r77:Int × Bool) (x1 x15 x37 x53 x75 x91:Int):Option ((Option aA) × (Option aA) × (List Int) × (List Int)) :=
 if 0 <= r77.1 ∧ r77.1.toNat < p95.length then
  (p95[r77.1.toNat]?).bind fun (x98:Int) =>
  if (p92 == x75) = true then
   (aQ (p95.set r77.1.toNat p92)).bind fun (r99:(List Int)) =>
   (aQ p96).bind fun (r100:(List Int)) =>
   if 0 <= (IntKind.wrap .i64 ((p96.length:Int) - 1)) ∧ (IntKind.wrap .i64 ((p96.length:Int) - 1)).toNat < p96.length then
    (p96[(IntKind.wrap .i64 ((p96.length:Int) - 1)).toNat]?).bind fun (x101:Int) =>
    (at? a0.Orders x101).bind fun (x102:b4) =>
    (fZ x102 a2).bind fun (r103:Bool) =>
    if r103 = true then
     (fM a0 a1 a2 p16 p54 p92 p95 r3 r39 r77 x1 x15 x37 x53 x75 x91 p93 p94 p96).bind fun (r165:(List Int)) =>
     some ((p93,p94,r165,p96))
    else
     (nF a0 a1 a2 p16 p54 p92 p93 p94 p95 p96 r100 r3 r39 r77 r99 x1 x15 x37 x53 x75 x91 0 r99).bind fun (r109:(List Int)) =>
     if p93.isNone = true then
      (fM a0 a1 a2 p16 p54 p92 p95 r3 r39 r77 x1 x15 x37 x53 x75 x91 (some (aA.mk 0 a1 a2 r109 r100)) p94 p96).bind fun (r166:(List Int)) =>
      some (((some (aA.mk 0 a1 a2 r109 r100)),p94,r166,p96))
     else
      (p93).bind fun (x110:aA) =>
      (dP (aA.mk 0 a1 a2 r109 r100) x110).bind fun (r111:Bool) =>
      if r111 = true then
       (fM a0 a1 a2 p16 p54 p92 p95 r3 r39 r77 x1 x15 x37 x53 x75 x91 (some (aA.mk 0 a1 a2 r109 r100)) p94 p96).bind fun (r167:(List Int)) =>
       some (((some (aA.mk 0 a1 a2 r109 r100)),p94,r167,p96))
      else
       (fM a0 a1 a2 p16 p54 p92 p95 r3 r39 r77 x1 x15 x37 x53 x75 x91 p93 p94 p96).bind fun (r168:(List Int)) =>
       some ((p93,p94,r168,p96))
   else none
  else
   (eR p96 p92).bind fun (r112:Bool) =>
   if (p96.length + 1) * 8 <= 140737488355328 then
    if r77.2 = true then
     if (!(r112)) = true then
      none
     else
      (kN a0 a1 a2 p16 p54 p92 p93 p94 p95 p96 r3 r39 r77 x1 x15 x37 x53 x75 x91).bind fun (r154:(Option aA) × (Option aA)) =>
      (kL a0 a1 a2 p16 p54 p92 p95 p96 r3 r39 r77 x1 x15 x37 x53 x75 x91 r154.1 r154.2).bind fun (r158:Unit) =>
      (fM a0 a1 a2 p16 p54 p92 p95 r3 r39 r77 x1 x15 x37 x53 x75 x91 r154.1 r154.2 ((p96 ++ [p92]).take ((IntKind.wrap .i64 (((p96 ++ [p92]).length:Int) - 1)).toNat))).bind fun (r169:(List Int)) =>
      some ((r154.1,r154.2,r169,((p96 ++ [p92]).take ((IntKind.wrap .i64 (((p96 ++ [p92]).length:Int) - 1)).toNat))))
    else
     (kN a0 a1 a2 p16 p54 p92 p93 p94 p95 p96 r3 r39 r77 x1 x15 x37 x53 x75 x91).bind fun (r155:(Option aA) × (Option aA)) =>
     (kL a0 a1 a2 p16 p54 p92 p95 p96 r3 r39 r77 x1 x15 x37 x53 x75 x91 r155.1 r155.2).bind fun (r159:Unit) =>
     (fM a0 a1 a2 p16 p54 p92 p95 r3 r39 r77 x1 x15 x37 x53 x75 x91 r155.1 r155.2 ((p96 ++ [p92]).take ((IntKind.wrap .i64 (((p96 ++ [p92]).length:Int) - 1)).toNat))).bind fun (r170:(List Int)) =>
     some ((r155.1,r155.2,r170,((p96 ++ [p92]).take ((IntKind.wrap .i64 (((p96 ++ [p92]).length:Int) - 1)).toNat))))
   else none
 else none
def g9 (a0:aB) (a1 a2 p16 p54:Int) (r3 r39 r77:Int × Bool) (x1 x15 x37 x53 x75 x91 p92:Int) (p93 p94:Option aA) (p95 p96:List Int):Option ((Int × (Option aA) × (Option aA) × (List Int) × (List Int)) ⊕ ((Option aA) × (Option aA) × (List Int) × (List Int))) :=
 if decide (p92 < (a0.Orders.length:Int)) = true then
  if (!(x91 == (-1))) = true then
   if 0 <= r77.1 ∧ r77.1.toNat < p95.length then
    (p95[r77.1.toNat]?).bind fun (x97:Int) =>
    if (x97 != p92) = true then
     some (.inl (IntKind.wrap .i64 (p92 + 1),p93,p94,p95,p96))
    else
     (kO a0 a1 a2 p16 p54 p92 p93 p94 p95 p96 r3 r39 r77 x1 x15 x37 x53 x75 x91).bind fun (r175:(Option aA) × (Option aA) × (List Int) × (List Int)) =>
     some (.inl (IntKind.wrap .i64 (p92 + 1),r175.1,r175.2.1,r175.2.2.1,r175.2.2.2))
   else none
  else
   (kO a0 a1 a2 p16 p54 p92 p93 p94 p95 p96 r3 r39 r77 x1 x15 x37 x53 x75 x91).bind fun (r176:(Option aA) × (Option aA) × (List Int) × (List Int)) =>
   some (.inl (IntKind.wrap .i64 (p92 + 1),r176.1,r176.2.1,r176.2.2.1,r176.2.2.2))
 else
  some (.inr ((p93,p94,p95,p96)))
def pM (a0:aB) (a1 a2 p16 p54:Int) (r3 r39 r77:Int × Bool) (x1 x15 x37 x53 x75 x91 p92:Int) (p93 p94:Option aA) (p95 p96:List Int):Option ((Option aA) × (Option aA) × (List Int) × (List Int)) :=
 gB (fun (w:Int × (Option aA) × (Option aA) × (List Int) × (List Int))=>g9 a0 a1 a2 p16 p54 r3 r39 r77 x1 x15 x37 x53 x75 x91 w.1 w.2.1 w.2.2.1 w.2.2.2.1 w.2.2.2.2) (p92,p93,p94,p95,p96)
def mK (a0:aB) (a1 a2 p16 p54:Int) (p55 p56:Option aA) (p57 p58:List Int) (r3 r39:Int × Bool) (x1 x15 x37 x53:Int):Option ((Option aA) × (Option aA) × (List Int) × (List Int)) :=
 if 0 <= (IntKind.wrap .i64 (((p58 ++ [p54]).length:Int) - 1)) ∧ (IntKind.wrap .i64 (((p58 ++ [p54]).length:Int) - 1)).toNat < (p58 ++ [p54]).length then
  ((p58 ++ [p54])[(IntKind.wrap .i64 (((p58 ++ [p54]).length:Int) - 1)).toNat]?).bind fun (x75:Int) =>
  (at? a0.Orders x75).bind fun (x76:b4) =>
  (lI x76 a2).bind fun (r77:Int × Bool) =>
  if (r77.1 == 0) = true then
   (aQ (p57.set r39.1.toNat p54)).bind fun (r78:(List Int)) =>
   (aQ (p58 ++ [p54])).bind fun (r79:(List Int)) =>
   if 0 <= (IntKind.wrap .i64 (((p58 ++ [p54]).length:Int) - 1)) ∧ (IntKind.wrap .i64 (((p58 ++ [p54]).length:Int) - 1)).toNat < (p58 ++ [p54]).length then
    ((p58 ++ [p54])[(IntKind.wrap .i64 (((p58 ++ [p54]).length:Int) - 1)).toNat]?).bind fun (x80:Int) =>
    (at? a0.Orders x80).bind fun (x81:b4) =>
    (fZ x81 a2).bind fun (r82:Bool) =>
    if r82 = true then
     some ((p55,p56,p57.set r39.1.toNat p54,p58 ++ [p54]))
    else
     (nW a0 a1 a2 p16 p54 p55 p56 p57 p58 r3 r39 r78 r79 x1 x15 x37 x53 0 r78).bind fun (r88:(List Int)) =>
     if p55.isNone = true then
      some ((some (aA.mk 0 a1 a2 r88 r79),p56,p57.set r39.1.toNat p54,p58 ++ [p54]))
     else
      (p55).bind fun (x89:aA) =>
      (dP (aA.mk 0 a1 a2 r88 r79) x89).bind fun (r90:Bool) =>
      if r90 = true then
       some ((some (aA.mk 0 a1 a2 r88 r79),p56,p57.set r39.1.toNat p54,p58 ++ [p54]))
      else
       some ((p55,p56,p57.set r39.1.toNat p54,p58 ++ [p54]))
   else none
  else
   if 0 <= r77.1 ∧ r77.1.toNat < (p57.set r39.1.toNat p54).length then
    ((p57.set r39.1.toNat p54)[r77.1.toNat]?).bind fun (x91:Int) =>
    (pM a0 a1 a2 p16 p54 r3 r39 r77 x1 x15 x37 x53 x75 x91 0 p55 p56 (p57.set r39.1.toNat p54) (p58 ++ [p54])).bind fun (r181:(Option aA) × (Option aA) × (List Int) × (List Int)) =>
    some ((r181.1,r181.2.1,r181.2.2.1,r181.2.2.2))
   else none
 else none
def nC (a0:aB) (a1 a2 p16:Int) (p191 p192:List Int) (p54:Int) (p55 p56:Option aA) (p57 p58:List Int) (r3 r39:Int × Bool) (x1 x15 x37 x53 p196:Int) (p197:List Int):Option ((Int × (List Int)) ⊕ ((List Int))) :=
 if decide (p196 < (p191.length:Int)) = true then
  if 0 <= p196 ∧ p196.toNat < p197.length then
   (p197[p196.toNat]?).bind fun (x198:Int) =>
   if 0 <= p196 ∧ p196.toNat < p197.length then
    (p197[p196.toNat]?).bind fun (x199:Int) =>
    some (.inl (IntKind.wrap .i64 (p196 + 1),p197.set p196.toNat (if x198 > 0 then x198 else 0)))
   else none
  else none
 else
  some (.inr (p197))
def mR (a0:aB) (a1 a2 p16:Int) (p191 p192:List Int) (p54:Int) (p55 p56:Option aA) (p57 p58:List Int) (r3 r39:Int × Bool) (x1 x15 x37 x53 p196:Int) (p197:List Int):Option ((List Int)) :=
 gB (fun (w:Int × (List Int))=>nC a0 a1 a2 p16 p191 p192 p54 p55 p56 p57 p58 r3 r39 x1 x15 x37 x53 w.1 w.2) (p196,p197)
def qD (a0:aB) (a1 a2 p16:Int) (p191 p192:List Int) (p54:Int) (p55 p56:Option aA) (p57 p58:List Int) (r3 r39:Int × Bool) (x1 x15 x37 x53:Int):Option ((Option aA)) :=
 (mR a0 a1 a2 p16 p191 p192 p54 p55 p56 p57 p58 r3 r39 x1 x15 x37 x53 0 p191).bind fun (r201:(List Int)) =>
 if p56.isNone = true then
  some (some (aA.mk 1 a1 a2 r201 p192))
 else
  (p56).bind fun (x202:aA) =>
  (dP (aA.mk 1 a1 a2 r201 p192) x202).bind fun (r203:Bool) =>
  if r203 = true then
   some (some (aA.mk 1 a1 a2 r201 p192))
  else
   some (p56)
def m3 (a0:aB) (a1 a2 p16:Int) (p191 p192:List Int) (p54:Int) (p55 p56:Option aA) (p57 p58:List Int) (r3 r39:Int × Bool) (x1 x15 x37 x53 p206:Int) (p207:List Int):Option ((Int × (List Int)) ⊕ ((List Int))) :=
 if decide (p206 < (p191.length:Int)) = true then
  if 0 <= p206 ∧ p206.toNat < p207.length then
   (p207[p206.toNat]?).bind fun (x208:Int) =>
   if 0 <= p206 ∧ p206.toNat < p207.length then
    (p207[p206.toNat]?).bind fun (x209:Int) =>
    some (.inl (IntKind.wrap .i64 (p206 + 1),p207.set p206.toNat (if x208 > 0 then x208 else 0)))
   else none
  else none
 else
  some (.inr (p207))
def mP (a0:aB) (a1 a2 p16:Int) (p191 p192:List Int) (p54:Int) (p55 p56:Option aA) (p57 p58:List Int) (r3 r39:Int × Bool) (x1 x15 x37 x53 p206:Int) (p207:List Int):Option ((List Int)) :=
 gB (fun (w:Int × (List Int))=>m3 a0 a1 a2 p16 p191 p192 p54 p55 p56 p57 p58 r3 r39 x1 x15 x37 x53 w.1 w.2) (p206,p207)
def pX (a0:aB) (a1 a2 p16:Int) (p191 p192:List Int) (p54:Int) (p55 p56:Option aA) (p57 p58:List Int) (r3 r39:Int × Bool) (x1 x15 x37 x53:Int):Option ((Option aA)) :=
 (mP a0 a1 a2 p16 p191 p192 p54 p55 p56 p57 p58 r3 r39 x1 x15 x37 x53 0 p191).bind fun (r211:(List Int)) =>
 if p55.isNone = true then
  some (some (aA.mk 0 a1 a2 r211 p192))
 else
  (p55).bind fun (x212:aA) =>
  (dP (aA.mk 0 a1 a2 r211 p192) x212).bind fun (r213:Bool) =>
  if r213 = true then
   some (some (aA.mk 0 a1 a2 r211 p192))
  else
   some (p55)
def gJ (a0:aB) (a1 a2 p16 p54:Int) (p55 p56:Option aA) (p57 p58:List Int) (r3 r39:Int × Bool) (x1 x15 x37 x53:Int) (p190:Bool) (p191 p192:List Int):Option (((Option aA) × (Option aA)) ⊕ Unit) :=
 if p190 = true then
  (qD a0 a1 a2 p16 p191 p192 p54 p55 p56 p57 p58 r3 r39 x1 x15 x37 x53).bind fun (r205:(Option aA)) =>
  some (.inl (p55,r205))
 else
  if 0 <= (IntKind.wrap .i64 (((p58 ++ [p54]).length:Int) - 1)) ∧ (IntKind.wrap .i64 (((p58 ++ [p54]).length:Int) - 1)).toNat < (p58 ++ [p54]).length then
   ((p58 ++ [p54])[(IntKind.wrap .i64 (((p58 ++ [p54]).length:Int) - 1)).toNat]?).bind fun (x193:Int) =>
   (at? a0.Orders x193).bind fun (x194:b4) =>
   (fZ x194 a2).bind fun (r195:Bool) =>
   if r195 = true then
    some (.inr (()))
   else
    (pX a0 a1 a2 p16 p191 p192 p54 p55 p56 p57 p58 r3 r39 x1 x15 x37 x53).bind fun (r215:(Option aA)) =>
    some (.inl (r215,p56))
  else none
def kC (a0:aB) (a1 a2 p16 p54:Int) (p55 p56:Option aA) (p57 p58:List Int) (r3 r39:Int × Bool) (x1 x15 x37 x53:Int):Option ((Option aA) × (Option aA)) :=
 if r39.2 = true then
  (at? a0.Orders p54).bind fun (x187:b4) =>
  (aQ (p57.set r39.1.toNat p54)).bind fun (r188:(List Int)) =>
  (aQ (p58 ++ [p54])).bind fun (r189:(List Int)) =>
  (gJ a0 a1 a2 p16 p54 p55 p56 p57 p58 r3 r39 x1 x15 x37 x53 (!(x187.Accepts)) r188 r189).bind fun (r218:((Option aA) × (Option aA)) ⊕ Unit)=>Sum.elim (fun z219 =>
  some ((z219.1,z219.2))) (fun z220 =>
  some ((p55,p56))) r218
 else
  (aQ (p57.set r39.1.toNat p54)).bind fun (r221:(List Int)) =>
  (aQ (p58 ++ [p54])).bind fun (r222:(List Int)) =>
  (gJ a0 a1 a2 p16 p54 p55 p56 p57 p58 r3 r39 x1 x15 x37 x53 false r221 r222).bind fun (r223:((Option aA) × (Option aA)) ⊕ Unit)=>Sum.elim (fun z224 =>
  some ((z224.1,z224.2))) (fun z225 =>
  some ((p55,p56))) r223
def jB (a0:aB) (a1 a2 p16 p54:Int) (r3 r39:Int × Bool) (x1 x15 x37 x53:Int) (p230 p231:Option aA) (p232 p233:List Int):Option (Unit) :=
 if 0 <= (IntKind.wrap .i64 ((p233.length:Int) - 1)) ∧ (IntKind.wrap .i64 ((p233.length:Int) - 1)).toNat <= p233.length then
  some (())
 else none
def fC (a0:aB) (a1 a2 p16 p54:Int) (r3 r39:Int × Bool) (x1 x15 x37 x53:Int) (p237 p238:Option aA) (p239 p240:List Int):Option ((List Int)) :=
 if (x53 == (-1)) = true then
  if 0 <= r39.1 ∧ r39.1.toNat < p239.length then
   (p239[r39.1.toNat]?).bind fun (x241:Int) =>
   some (p239.set r39.1.toNat (-1))
  else none
 else
  some (p239)
def kK (a0:aB) (a1 a2 p16 p54:Int) (p55 p56:Option aA) (p57 p58:List Int) (r3 r39:Int × Bool) (x1 x15 x37 x53:Int):Option ((Option aA) × (Option aA) × (List Int) × (List Int)) :=
 if 0 <= r39.1 ∧ r39.1.toNat < p57.length then
  (p57[r39.1.toNat]?).bind fun (x60:Int) =>
  if (p54 == x37) = true then
   (aQ (p57.set r39.1.toNat p54)).bind fun (r61:(List Int)) =>
   (aQ p58).bind fun (r62:(List Int)) =>
   if 0 <= (IntKind.wrap .i64 ((p58.length:Int) - 1)) ∧ (IntKind.wrap .i64 ((p58.length:Int) - 1)).toNat < p58.length then
    (p58[(IntKind.wrap .i64 ((p58.length:Int) - 1)).toNat]?).bind fun (x63:Int) =>
    (at? a0.Orders x63).bind fun (x64:b4) =>
    (fZ x64 a2).bind fun (r65:Bool) =>
    if r65 = true then
     (fC a0 a1 a2 p16 p54 r3 r39 x1 x15 x37 x53 p55 p56 (p57.set r39.1.toNat p54) p58).bind fun (r243:(List Int)) =>
     some ((p55,p56,r243,p58))
    else
     (nS a0 a1 a2 p16 p54 p55 p56 p57 p58 r3 r39 r61 r62 x1 x15 x37 x53 0 r61).bind fun (r71:(List Int)) =>
     if p55.isNone = true then
      (fC a0 a1 a2 p16 p54 r3 r39 x1 x15 x37 x53 (some (aA.mk 0 a1 a2 r71 r62)) p56 (p57.set r39.1.toNat p54) p58).bind fun (r244:(List Int)) =>
      some (((some (aA.mk 0 a1 a2 r71 r62)),p56,r244,p58))
     else
      (p55).bind fun (x72:aA) =>
      (dP (aA.mk 0 a1 a2 r71 r62) x72).bind fun (r73:Bool) =>
      if r73 = true then
       (fC a0 a1 a2 p16 p54 r3 r39 x1 x15 x37 x53 (some (aA.mk 0 a1 a2 r71 r62)) p56 (p57.set r39.1.toNat p54) p58).bind fun (r245:(List Int)) =>
       some (((some (aA.mk 0 a1 a2 r71 r62)),p56,r245,p58))
      else
       (fC a0 a1 a2 p16 p54 r3 r39 x1 x15 x37 x53 p55 p56 (p57.set r39.1.toNat p54) p58).bind fun (r246:(List Int)) =>
       some ((p55,p56,r246,p58))
   else none
  else
   (eR p58 p54).bind fun (r74:Bool) =>
   if (p58.length + 1) * 8 <= 140737488355328 then
    if r39.2 = true then
     if (!(r74)) = true then
      (mK a0 a1 a2 p16 p54 p55 p56 p57 p58 r3 r39 x1 x15 x37 x53).bind fun (r186:(Option aA) × (Option aA) × (List Int) × (List Int)) =>
      (jB a0 a1 a2 p16 p54 r3 r39 x1 x15 x37 x53 r186.1 r186.2.1 r186.2.2.1 r186.2.2.2).bind fun (r234:Unit) =>
      (fC a0 a1 a2 p16 p54 r3 r39 x1 x15 x37 x53 r186.1 r186.2.1 r186.2.2.1 (r186.2.2.2.take ((IntKind.wrap .i64 ((r186.2.2.2.length:Int) - 1)).toNat))).bind fun (r247:(List Int)) =>
      some ((r186.1,r186.2.1,r247,(r186.2.2.2.take ((IntKind.wrap .i64 ((r186.2.2.2.length:Int) - 1)).toNat))))
     else
      (kC a0 a1 a2 p16 p54 p55 p56 p57 p58 r3 r39 x1 x15 x37 x53).bind fun (r228:(Option aA) × (Option aA)) =>
      (jB a0 a1 a2 p16 p54 r3 r39 x1 x15 x37 x53 r228.1 r228.2 (p57.set r39.1.toNat p54) (p58 ++ [p54])).bind fun (r235:Unit) =>
      (fC a0 a1 a2 p16 p54 r3 r39 x1 x15 x37 x53 r228.1 r228.2 (p57.set r39.1.toNat p54) ((p58 ++ [p54]).take ((IntKind.wrap .i64 (((p58 ++ [p54]).length:Int) - 1)).toNat))).bind fun (r248:(List Int)) =>
      some ((r228.1,r228.2,r248,((p58 ++ [p54]).take ((IntKind.wrap .i64 (((p58 ++ [p54]).length:Int) - 1)).toNat))))
    else
     (kC a0 a1 a2 p16 p54 p55 p56 p57 p58 r3 r39 x1 x15 x37 x53).bind fun (r229:(Option aA) × (Option aA)) =>
     (jB a0 a1 a2 p16 p54 r3 r39 x1 x15 x37 x53 r229.1 r229.2 (p57.set r39.1.toNat p54) (p58 ++ [p54])).bind fun (r236:Unit) =>
     (fC a0 a1 a2 p16 p54 r3 r39 x1 x15 x37 x53 r229.1 r229.2 (p57.set r39.1.toNat p54) ((p58 ++ [p54]).take ((IntKind.wrap .i64 (((p58 ++ [p54]).length:Int) - 1)).toNat))).bind fun (r249:(List Int)) =>
     some ((r229.1,r229.2,r249,((p58 ++ [p54]).take ((IntKind.wrap .i64 (((p58 ++ [p54]).length:Int) - 1)).toNat))))
   else none
 else none
def hY (a0:aB) (a1 a2 p16:Int) (r3 r39:Int × Bool) (x1 x15 x37 x53 p54:Int) (p55 p56:Option aA) (p57 p58:List Int):Option ((Int × (Option aA) × (Option aA) × (List Int) × (List Int)) ⊕ ((Option aA) × (Option aA) × (List Int) × (List Int))) :=
 if decide (p54 < (a0.Orders.length:Int)) = true then
  if (!(x53 == (-1))) = true then
   if 0 <= r39.1 ∧ r39.1.toNat < p57.length then
    (p57[r39.1.toNat]?).bind fun (x59:Int) =>
    if (x59 != p54) = true then
     some (.inl (IntKind.wrap .i64 (p54 + 1),p55,p56,p57,p58))
    else
     (kK a0 a1 a2 p16 p54 p55 p56 p57 p58 r3 r39 x1 x15 x37 x53).bind fun (r254:(Option aA) × (Option aA) × (List Int) × (List Int)) =>
     some (.inl (IntKind.wrap .i64 (p54 + 1),r254.1,r254.2.1,r254.2.2.1,r254.2.2.2))
   else none
  else
   (kK a0 a1 a2 p16 p54 p55 p56 p57 p58 r3 r39 x1 x15 x37 x53).bind fun (r255:(Option aA) × (Option aA) × (List Int) × (List Int)) =>
   some (.inl (IntKind.wrap .i64 (p54 + 1),r255.1,r255.2.1,r255.2.2.1,r255.2.2.2))
 else
  some (.inr ((p55,p56,p57,p58)))
def pY (a0:aB) (a1 a2 p16:Int) (r3 r39:Int × Bool) (x1 x15 x37 x53 p54:Int) (p55 p56:Option aA) (p57 p58:List Int):Option ((Option aA) × (Option aA) × (List Int) × (List Int)) :=
 gB (fun (w:Int × (Option aA) × (Option aA) × (List Int) × (List Int))=>hY a0 a1 a2 p16 r3 r39 x1 x15 x37 x53 w.1 w.2.1 w.2.2.1 w.2.2.2.1 w.2.2.2.2) (p54,p55,p56,p57,p58)
def mN (a0:aB) (a1 a2 p16:Int) (p17 p18:Option aA) (p19 p20:List Int) (r3:Int × Bool) (x1 x15:Int):Option ((Option aA) × (Option aA) × (List Int) × (List Int)) :=
 if 0 <= (IntKind.wrap .i64 (((p20 ++ [p16]).length:Int) - 1)) ∧ (IntKind.wrap .i64 (((p20 ++ [p16]).length:Int) - 1)).toNat < (p20 ++ [p16]).length then
  ((p20 ++ [p16])[(IntKind.wrap .i64 (((p20 ++ [p16]).length:Int) - 1)).toNat]?).bind fun (x37:Int) =>
  (at? a0.Orders x37).bind fun (x38:b4) =>
  (lI x38 a2).bind fun (r39:Int × Bool) =>
  if (r39.1 == 0) = true then
   (aQ (p19.set r3.1.toNat p16)).bind fun (r40:(List Int)) =>
   (aQ (p20 ++ [p16])).bind fun (r41:(List Int)) =>
   if 0 <= (IntKind.wrap .i64 (((p20 ++ [p16]).length:Int) - 1)) ∧ (IntKind.wrap .i64 (((p20 ++ [p16]).length:Int) - 1)).toNat < (p20 ++ [p16]).length then
    ((p20 ++ [p16])[(IntKind.wrap .i64 (((p20 ++ [p16]).length:Int) - 1)).toNat]?).bind fun (x42:Int) =>
    (at? a0.Orders x42).bind fun (x43:b4) =>
    (fZ x43 a2).bind fun (r44:Bool) =>
    if r44 = true then
     some ((p17,p18,p19.set r3.1.toNat p16,p20 ++ [p16]))
    else
     (nH a0 a1 a2 p16 p17 p18 p19 p20 r3 r40 r41 x1 x15 0 r40).bind fun (r50:(List Int)) =>
     if p17.isNone = true then
      some ((some (aA.mk 0 a1 a2 r50 r41),p18,p19.set r3.1.toNat p16,p20 ++ [p16]))
     else
      (p17).bind fun (x51:aA) =>
      (dP (aA.mk 0 a1 a2 r50 r41) x51).bind fun (r52:Bool) =>
      if r52 = true then
       some ((some (aA.mk 0 a1 a2 r50 r41),p18,p19.set r3.1.toNat p16,p20 ++ [p16]))
      else
       some ((p17,p18,p19.set r3.1.toNat p16,p20 ++ [p16]))
   else none
  else
   if 0 <= r39.1 ∧ r39.1.toNat < (p19.set r3.1.toNat p16).length then
    ((p19.set r3.1.toNat p16)[r39.1.toNat]?).bind fun (x53:Int) =>
    (pY a0 a1 a2 p16 r3 r39 x1 x15 x37 x53 0 p17 p18 (p19.set r3.1.toNat p16) (p20 ++ [p16])).bind fun (r260:(Option aA) × (Option aA) × (List Int) × (List Int)) =>
    some ((r260.1,r260.2.1,r260.2.2.1,r260.2.2.2))
   else none
 else none
def m9 (a0:aB) (a1 a2 p16:Int) (p17 p18:Option aA) (p19 p20 p270 p271:List Int) (r3:Int × Bool) (x1 x15 p275:Int) (p276:List Int):Option ((Int × (List Int)) ⊕ ((List Int))) :=
 if decide (p275 < (p270.length:Int)) = true then
  if 0 <= p275 ∧ p275.toNat < p276.length then
   (p276[p275.toNat]?).bind fun (x277:Int) =>
   if 0 <= p275 ∧ p275.toNat < p276.length then
    (p276[p275.toNat]?).bind fun (x278:Int) =>
    some (.inl (IntKind.wrap .i64 (p275 + 1),p276.set p275.toNat (if x277 > 0 then x277 else 0)))
   else none
  else none
 else
  some (.inr (p276))
def mL (a0:aB) (a1 a2 p16:Int) (p17 p18:Option aA) (p19 p20 p270 p271:List Int) (r3:Int × Bool) (x1 x15 p275:Int) (p276:List Int):Option ((List Int)) :=
 gB (fun (w:Int × (List Int))=>m9 a0 a1 a2 p16 p17 p18 p19 p20 p270 p271 r3 x1 x15 w.1 w.2) (p275,p276)
def pN (a0:aB) (a1 a2 p16:Int) (p17 p18:Option aA) (p19 p20 p270 p271:List Int) (r3:Int × Bool) (x1 x15:Int):Option ((Option aA)) :=
 (mL a0 a1 a2 p16 p17 p18 p19 p20 p270 p271 r3 x1 x15 0 p270).bind fun (r280:(List Int)) =>
 if p18.isNone = true then
  some (some (aA.mk 1 a1 a2 r280 p271))
 else
  (p18).bind fun (x281:aA) =>
  (dP (aA.mk 1 a1 a2 r280 p271) x281).bind fun (r282:Bool) =>
  if r282 = true then
   some (some (aA.mk 1 a1 a2 r280 p271))
  else
   some (p18)
def mX (a0:aB) (a1 a2 p16:Int) (p17 p18:Option aA) (p19 p20 p270 p271:List Int) (r3:Int × Bool) (x1 x15 p285:Int) (p286:List Int):Option ((Int × (List Int)) ⊕ ((List Int))) :=
 if decide (p285 < (p270.length:Int)) = true then
  if 0 <= p285 ∧ p285.toNat < p286.length then
   (p286[p285.toNat]?).bind fun (x287:Int) =>
   if 0 <= p285 ∧ p285.toNat < p286.length then
    (p286[p285.toNat]?).bind fun (x288:Int) =>
    some (.inl (IntKind.wrap .i64 (p285 + 1),p286.set p285.toNat (if x287 > 0 then x287 else 0)))
   else none
  else none
 else
  some (.inr (p286))
def mI (a0:aB) (a1 a2 p16:Int) (p17 p18:Option aA) (p19 p20 p270 p271:List Int) (r3:Int × Bool) (x1 x15 p285:Int) (p286:List Int):Option ((List Int)) :=
 gB (fun (w:Int × (List Int))=>mX a0 a1 a2 p16 p17 p18 p19 p20 p270 p271 r3 x1 x15 w.1 w.2) (p285,p286)
def pR (a0:aB) (a1 a2 p16:Int) (p17 p18:Option aA) (p19 p20 p270 p271:List Int) (r3:Int × Bool) (x1 x15:Int):Option ((Option aA)) :=
 (mI a0 a1 a2 p16 p17 p18 p19 p20 p270 p271 r3 x1 x15 0 p270).bind fun (r290:(List Int)) =>
 if p17.isNone = true then
  some (some (aA.mk 0 a1 a2 r290 p271))
 else
  (p17).bind fun (x291:aA) =>
  (dP (aA.mk 0 a1 a2 r290 p271) x291).bind fun (r292:Bool) =>
  if r292 = true then
   some (some (aA.mk 0 a1 a2 r290 p271))
  else
   some (p17)
def gM (a0:aB) (a1 a2 p16:Int) (p17 p18:Option aA) (p19 p20:List Int) (r3:Int × Bool) (x1 x15:Int) (p269:Bool) (p270 p271:List Int):Option (((Option aA) × (Option aA)) ⊕ Unit) :=
 if p269 = true then
  (pN a0 a1 a2 p16 p17 p18 p19 p20 p270 p271 r3 x1 x15).bind fun (r284:(Option aA)) =>
  some (.inl (p17,r284))
 else
  if 0 <= (IntKind.wrap .i64 (((p20 ++ [p16]).length:Int) - 1)) ∧ (IntKind.wrap .i64 (((p20 ++ [p16]).length:Int) - 1)).toNat < (p20 ++ [p16]).length then
   ((p20 ++ [p16])[(IntKind.wrap .i64 (((p20 ++ [p16]).length:Int) - 1)).toNat]?).bind fun (x272:Int) =>
   (at? a0.Orders x272).bind fun (x273:b4) =>
   (fZ x273 a2).bind fun (r274:Bool) =>
   if r274 = true then
    some (.inr (()))
   else
    (pR a0 a1 a2 p16 p17 p18 p19 p20 p270 p271 r3 x1 x15).bind fun (r294:(Option aA)) =>
    some (.inl (r294,p18))
  else none
def kJ (a0:aB) (a1 a2 p16:Int) (p17 p18:Option aA) (p19 p20:List Int) (r3:Int × Bool) (x1 x15:Int):Option ((Option aA) × (Option aA)) :=
 if r3.2 = true then
  (at? a0.Orders p16).bind fun (x266:b4) =>
  (aQ (p19.set r3.1.toNat p16)).bind fun (r267:(List Int)) =>
  (aQ (p20 ++ [p16])).bind fun (r268:(List Int)) =>
  (gM a0 a1 a2 p16 p17 p18 p19 p20 r3 x1 x15 (!(x266.Accepts)) r267 r268).bind fun (r297:((Option aA) × (Option aA)) ⊕ Unit)=>Sum.elim (fun z298 =>
  some ((z298.1,z298.2))) (fun z299 =>
  some ((p17,p18))) r297
 else
  (aQ (p19.set r3.1.toNat p16)).bind fun (r300:(List Int)) =>
  (aQ (p20 ++ [p16])).bind fun (r301:(List Int)) =>
  (gM a0 a1 a2 p16 p17 p18 p19 p20 r3 x1 x15 false r300 r301).bind fun (r302:((Option aA) × (Option aA)) ⊕ Unit)=>Sum.elim (fun z303 =>
  some ((z303.1,z303.2))) (fun z304 =>
  some ((p17,p18))) r302
def jH (a0:aB) (a1 a2 p16:Int) (r3:Int × Bool) (x1 x15:Int) (p309 p310:Option aA) (p311 p312:List Int):Option (Unit) :=
 if 0 <= (IntKind.wrap .i64 ((p312.length:Int) - 1)) ∧ (IntKind.wrap .i64 ((p312.length:Int) - 1)).toNat <= p312.length then
  some (())
 else none
def fE (a0:aB) (a1 a2 p16:Int) (r3:Int × Bool) (x1 x15:Int) (p316 p317:Option aA) (p318 p319:List Int):Option ((List Int)) :=
 if (x15 == (-1)) = true then
  if 0 <= r3.1 ∧ r3.1.toNat < p318.length then
   (p318[r3.1.toNat]?).bind fun (x320:Int) =>
   some (p318.set r3.1.toNat (-1))
  else none
 else
  some (p318)
def kI (a0:aB) (a1 a2 p16:Int) (p17 p18:Option aA) (p19 p20:List Int) (r3:Int × Bool) (x1 x15:Int):Option ((Option aA) × (Option aA) × (List Int) × (List Int)) :=
 if 0 <= r3.1 ∧ r3.1.toNat < p19.length then
  (p19[r3.1.toNat]?).bind fun (x22:Int) =>
  if (p16 == x1) = true then
   (aQ (p19.set r3.1.toNat p16)).bind fun (r23:(List Int)) =>
   (aQ p20).bind fun (r24:(List Int)) =>
   if 0 <= (IntKind.wrap .i64 ((p20.length:Int) - 1)) ∧ (IntKind.wrap .i64 ((p20.length:Int) - 1)).toNat < p20.length then
    (p20[(IntKind.wrap .i64 ((p20.length:Int) - 1)).toNat]?).bind fun (x25:Int) =>
    (at? a0.Orders x25).bind fun (x26:b4) =>
    (fZ x26 a2).bind fun (r27:Bool) =>
    if r27 = true then
     (fE a0 a1 a2 p16 r3 x1 x15 p17 p18 (p19.set r3.1.toNat p16) p20).bind fun (r322:(List Int)) =>
     some ((p17,p18,r322,p20))
    else
     (nL a0 a1 a2 p16 p17 p18 p19 p20 r23 r24 r3 x1 x15 0 r23).bind fun (r33:(List Int)) =>
     if p17.isNone = true then
      (fE a0 a1 a2 p16 r3 x1 x15 (some (aA.mk 0 a1 a2 r33 r24)) p18 (p19.set r3.1.toNat p16) p20).bind fun (r323:(List Int)) =>
      some (((some (aA.mk 0 a1 a2 r33 r24)),p18,r323,p20))
     else
      (p17).bind fun (x34:aA) =>
      (dP (aA.mk 0 a1 a2 r33 r24) x34).bind fun (r35:Bool) =>
      if r35 = true then
       (fE a0 a1 a2 p16 r3 x1 x15 (some (aA.mk 0 a1 a2 r33 r24)) p18 (p19.set r3.1.toNat p16) p20).bind fun (r324:(List Int)) =>
       some (((some (aA.mk 0 a1 a2 r33 r24)),p18,r324,p20))
      else
       (fE a0 a1 a2 p16 r3 x1 x15 p17 p18 (p19.set r3.1.toNat p16) p20).bind fun (r325:(List Int)) =>
       some ((p17,p18,r325,p20))
   else none
  else
   (eR p20 p16).bind fun (r36:Bool) =>
   if (p20.length + 1) * 8 <= 140737488355328 then
    if r3.2 = true then
     if (!(r36)) = true then
      (mN a0 a1 a2 p16 p17 p18 p19 p20 r3 x1 x15).bind fun (r265:(Option aA) × (Option aA) × (List Int) × (List Int)) =>
      (jH a0 a1 a2 p16 r3 x1 x15 r265.1 r265.2.1 r265.2.2.1 r265.2.2.2).bind fun (r313:Unit) =>
      (fE a0 a1 a2 p16 r3 x1 x15 r265.1 r265.2.1 r265.2.2.1 (r265.2.2.2.take ((IntKind.wrap .i64 ((r265.2.2.2.length:Int) - 1)).toNat))).bind fun (r326:(List Int)) =>
      some ((r265.1,r265.2.1,r326,(r265.2.2.2.take ((IntKind.wrap .i64 ((r265.2.2.2.length:Int) - 1)).toNat))))
     else
      (kJ a0 a1 a2 p16 p17 p18 p19 p20 r3 x1 x15).bind fun (r307:(Option aA) × (Option aA)) =>
      (jH a0 a1 a2 p16 r3 x1 x15 r307.1 r307.2 (p19.set r3.1.toNat p16) (p20 ++ [p16])).bind fun (r314:Unit) =>
      (fE a0 a1 a2 p16 r3 x1 x15 r307.1 r307.2 (p19.set r3.1.toNat p16) ((p20 ++ [p16]).take ((IntKind.wrap .i64 (((p20 ++ [p16]).length:Int) - 1)).toNat))).bind fun (r327:(List Int)) =>
      some ((r307.1,r307.2,r327,((p20 ++ [p16]).take ((IntKind.wrap .i64 (((p20 ++ [p16]).length:Int) - 1)).toNat))))
    else
     (kJ a0 a1 a2 p16 p17 p18 p19 p20 r3 x1 x15).bind fun (r308:(Option aA) × (Option aA)) =>
     (jH a0 a1 a2 p16 r3 x1 x15 r308.1 r308.2 (p19.set r3.1.toNat p16) (p20 ++ [p16])).bind fun (r315:Unit) =>
     (fE a0 a1 a2 p16 r3 x1 x15 r308.1 r308.2 (p19.set r3.1.toNat p16) ((p20 ++ [p16]).take ((IntKind.wrap .i64 (((p20 ++ [p16]).length:Int) - 1)).toNat))).bind fun (r328:(List Int)) =>
     some ((r308.1,r308.2,r328,((p20 ++ [p16]).take ((IntKind.wrap .i64 (((p20 ++ [p16]).length:Int) - 1)).toNat))))
   else none
 else none
def hU (a0:aB) (a1 a2:Int) (r3:Int × Bool) (x1 x15 p16:Int) (p17 p18:Option aA) (p19 p20:List Int):Option ((Int × (Option aA) × (Option aA) × (List Int) × (List Int)) ⊕ ((Option aA) × (Option aA))) :=
 if decide (p16 < (a0.Orders.length:Int)) = true then
  if (!(x15 == (-1))) = true then
   if 0 <= r3.1 ∧ r3.1.toNat < p19.length then
    (p19[r3.1.toNat]?).bind fun (x21:Int) =>
    if (x21 != p16) = true then
     some (.inl (IntKind.wrap .i64 (p16 + 1),p17,p18,p19,p20))
    else
     (kI a0 a1 a2 p16 p17 p18 p19 p20 r3 x1 x15).bind fun (r333:(Option aA) × (Option aA) × (List Int) × (List Int)) =>
     some (.inl (IntKind.wrap .i64 (p16 + 1),r333.1,r333.2.1,r333.2.2.1,r333.2.2.2))
   else none
  else
   (kI a0 a1 a2 p16 p17 p18 p19 p20 r3 x1 x15).bind fun (r334:(Option aA) × (Option aA) × (List Int) × (List Int)) =>
   some (.inl (IntKind.wrap .i64 (p16 + 1),r334.1,r334.2.1,r334.2.2.1,r334.2.2.2))
 else
  some (.inr ((p17,p18)))
def mM (a0:aB) (a1 a2:Int) (r3:Int × Bool) (x1 x15 p16:Int) (p17 p18:Option aA) (p19 p20:List Int):Option ((Option aA) × (Option aA)) :=
 gB (fun (w:Int × (Option aA) × (Option aA) × (List Int) × (List Int))=>hU a0 a1 a2 r3 x1 x15 w.1 w.2.1 w.2.2.1 w.2.2.2.1 w.2.2.2.2) (p16,p17,p18,p19,p20)
def o8 (a0:aB) (a1 a2:Int):Option (b9) :=
 if 0 <= (IntKind.wrap .i64 (([a1].length:Int) - 1)) ∧ (IntKind.wrap .i64 (([a1].length:Int) - 1)).toNat < 1 then
  ([a1][(IntKind.wrap .i64 (([a1].length:Int) - 1)).toNat]?).bind fun (x1:Int) =>
  (at? a0.Orders x1).bind fun (x2:b4) =>
  (lI x2 a2).bind fun (r3:Int × Bool) =>
  if (r3.1 == 0) = true then
   (aQ [a1,(-1),(-1),(-1),(-1)]).bind fun (r4:(List Int)) =>
   (aQ [a1]).bind fun (r5:(List Int)) =>
   if 0 <= (IntKind.wrap .i64 (([a1].length:Int) - 1)) ∧ (IntKind.wrap .i64 (([a1].length:Int) - 1)).toNat < 1 then
    ([a1][(IntKind.wrap .i64 (([a1].length:Int) - 1)).toNat]?).bind fun (x6:Int) =>
    (at? a0.Orders x6).bind fun (x7:b4) =>
    (fZ x7 a2).bind fun (r8:Bool) =>
    if r8 = true then
     some (b9.mk none none)
    else
     (nM a1 a2 r4 r5 0 r4).bind fun (r14:(List Int)) =>
     some (b9.mk (some (aA.mk 0 a1 a2 r14 r5)) none)
   else none
  else
   if 0 <= r3.1 ∧ r3.1.toNat < 5 then
    ([a1,(-1),(-1),(-1),(-1)][r3.1.toNat]?).bind fun (x15:Int) =>
    (mM a0 a1 a2 r3 x1 x15 0 none none [a1,(-1),(-1),(-1),(-1)] [a1]).bind fun (r337:(Option aA) × (Option aA)) =>
    some (b9.mk r337.1 r337.2)
   else none
 else none
def mC (a0:aB) (p2 p4 p7:Int) (p8:List aA) (r6:b9) (p9:Option aA):Option ((List aA)) :=
 if p9.isSome = true then
  (p9).bind fun (x10:aA) =>
  if (p8.length + 1) * 72 <= 140737488355328 then
   some (p8 ++ [x10])
  else none
 else
  some (p8)
def jJ (a0:aB) (p2 p4:Int) (r6:b9) (p7:Int) (p8:List aA):Option ((Int × (List aA)) ⊕ ((List aA))) :=
 if decide (p7 < 2) = true then
  if p7 = 0 then
   (mC a0 p2 p4 p7 p8 r6 r6.e0).bind fun (r12:(List aA)) =>
   some (.inl (IntKind.wrap .i64 (p7 + 1),r12))
  else
   if p7 = 1 then
    (mC a0 p2 p4 p7 p8 r6 r6.e1).bind fun (r13:(List aA)) =>
    some (.inl (IntKind.wrap .i64 (p7 + 1),r13))
   else none
 else
  some (.inr (p8))
def o3 (a0:aB) (p2 p4:Int) (r6:b9) (p7:Int) (p8:List aA):Option ((List aA)) :=
 gB (fun (w:Int × (List aA))=>jJ a0 p2 p4 r6 w.1 w.2) (p7,p8)
def iX (a0:aB) (p2 p4:Int) (p5:List aA):Option ((Int × (List aA)) ⊕ ((List aA))) :=
 if decide (p4 < 22) = true then
  (o8 a0 p2 p4).bind fun (r6:b9) =>
  (o3 a0 p2 p4 r6 0 p5).bind fun (r15:(List aA)) =>
  some (.inl (IntKind.wrap .i64 (p4 + 1),r15))
 else
  some (.inr (p5))
def o5 (a0:aB) (p2 p4:Int) (p5:List aA):Option ((List aA)) :=
 gB (fun (w:Int × (List aA))=>iX a0 p2 w.1 w.2) (p4,p5)
def iV (a0:aB) (p2:Int) (p3:List aA):Option ((Int × (List aA)) ⊕ ((List aA))) :=
 if decide (p2 < (a0.Orders.length:Int)) = true then
  (o5 a0 p2 0 p3).bind fun (r17:(List aA)) =>
  some (.inl (IntKind.wrap .i64 (p2 + 1),r17))
 else
  some (.inr (p3))
def sF (a0:aB) (p2:Int) (p3:List aA):Option ((List aA)) :=
 gB (fun (w:Int × (List aA))=>iV a0 w.1 w.2) (p2,p3)
def lF (a0:aB):Option ((List aA) × Int) :=
 (lG a0).bind fun (r1:Int) =>
 if (r1 != 0) = true then
  some ([],r1)
 else
  (sF a0 0 []).bind fun (r19:(List aA)) =>
  some (r19,0)
def iP (a0 a1:List Int) (p1:Int):Option ((Int) ⊕ (Unit ⊕ Unit)) :=
 if decide (p1 < (a0.length:Int)) = true then
  (at? a0 p1).bind fun (x2:Int) =>
  (at? a1 p1).bind fun (x3:Int) =>
  if (x2 != x3) = true then
   some (.inr (.inr (())))
  else
   some (.inl (IntKind.wrap .i64 (p1 + 1)))
 else
  some (.inr (.inl ()))
def mA (a0 a1:List Int) (p1:Int):Option (Unit ⊕ Unit) :=
 gB (fun (w:Int)=>iP a0 a1 w) p1
def iW (a0 a1:List Int):Option (Bool) :=
 if ((a0.length:Int) != (a1.length:Int)) = true then
  some false
 else
  (mA a0 a1 0).bind fun (r4:Unit ⊕ Unit)=>Sum.elim (fun z5 =>
  some true) (fun z6 =>
  some false) r4
def o0 (a0 a1:aA):Option (Bool) :=
 if (a0.Kind == a1.Kind) = true then
  if (a0.Forum == a1.Forum) = true then
   if (a0.Ask == a1.Ask) = true then
    (iW a0.Places a1.Places).bind fun (r1:Bool) =>
    if r1 = true then
     (iW a0.Path a1.Path).bind fun (r2:Bool) =>
     some r2
    else
     some false
   else
    some false
  else
   some false
 else
  some false
def i8 (a0 a1:List aA) (p1:Int):Option ((Int) ⊕ (Unit ⊕ Unit)) :=
 if decide (p1 < (a0.length:Int)) = true then
  (at? a0 p1).bind fun (x2:aA) =>
  (at? a1 p1).bind fun (x3:aA) =>
  (o0 x2 x3).bind fun (r4:Bool) =>
  if (!(r4)) = true then
   some (.inr (.inr (())))
  else
   some (.inl (IntKind.wrap .i64 (p1 + 1)))
 else
  some (.inr (.inl ()))
def mW (a0 a1:List aA) (p1:Int):Option (Unit ⊕ Unit) :=
 gB (fun (w:Int)=>i8 a0 a1 w) p1
def lV (a0 a1:List aA):Option (Bool) :=
 if ((a0.length:Int) != (a1.length:Int)) = true then
  some false
 else
  (mW a0 a1 0).bind fun (r5:Unit ⊕ Unit)=>Sum.elim (fun z6 =>
  some true) (fun z7 =>
  some false) r5
def kZ (a0 a1:Int):Option (Bool) :=
 if decide (a0 < 0) = true then
  some true
 else
  some (decide (a0 ≥ a1))
def eD (a0:List Int) (a1 p1:Int):Option ((Int) ⊕ (Unit ⊕ Int)) :=
 if decide (p1 < (a0.length:Int)) = true then
  (at? a0 p1).bind fun (x2:Int) =>
  (kZ x2 a1).bind fun (r3:Bool) =>
  if r3 = true then
   some (.inr (.inr (p1)))
  else
   some (.inl (IntKind.wrap .i64 (p1 + 1)))
 else
  some (.inr (.inl ()))
def gP (a0:List Int) (a1 p1:Int):Option (Unit ⊕ Int) :=
 gB (fun (w:Int)=>eD a0 a1 w) p1
def gC (a0:List Int) (a1:Int):Option (Int) :=
 (gP a0 a1 0).bind fun (r5:Unit ⊕ Int)=>Sum.elim (fun z6 =>
 some (-1)) (fun z7 =>
 some z7) r5
def eX (a0:List Int) (a1:Int):Option (Bool) :=
 (gC a0 a1).bind fun (r1:Int) =>
 some (decide (r1 ≥ 0))
def lO (a0:aB) (a1 a2:Int) (a3:List Int):Option (Bool) :=
 if decide (a1 < 0) = true then
  some false
 else
  if decide (a1 ≥ (a0.Orders.length:Int)) = true then
   some false
  else
   if decide (a2 < 0) = true then
    some false
   else
    if decide (a2 ≥ 22) = true then
     some false
    else
     if ((a3.length:Int) != 5) = true then
      some false
     else
      (eX a3 (a0.Orders.length:Int)).bind fun (r1:Bool) =>
      some (!(r1))
def gQ (a1 a2:Int) (a3:List Int) (x2:b4) (p3:Int):Option ((Int) ⊕ (Unit ⊕ (Int × Bool))) :=
 if decide (p3 < (x2.Choices.length:Int)) = true then
  (at? x2.Choices p3).bind fun (x4:cW) =>
  if (x4.Ask == a2) = true then
   if (x4.By != 0) = true then
    (at? a3 x4.By).bind fun (x5:Int) =>
    some (.inr (.inr ((x5,x4.Whole))))
   else
    some (.inl (IntKind.wrap .i64 (p3 + 1)))
  else
   some (.inl (IntKind.wrap .i64 (p3 + 1)))
 else
  some (.inr (.inl ()))
def oD (a1 a2:Int) (a3:List Int) (x2:b4) (p3:Int):Option (Unit ⊕ (Int × Bool)) :=
 gB (fun (w:Int)=>gQ a1 a2 a3 x2 w) p3
def mE (a0:aB) (a1 a2:Int) (a3:List Int):Option (Int × Bool) :=
 (lO a0 a1 a2 a3).bind fun (r1:Bool) =>
 if (!(r1)) = true then
  some ((-1),false)
 else
  (at? a0.Orders a1).bind fun (x2:b4) =>
  (oD a1 a2 a3 x2 0).bind fun (r8:Unit ⊕ (Int × Bool))=>Sum.elim (fun z9 =>
  some (a1,false)) (fun z10 =>
  some (z10.1,z10.2)) r8
def jU (a0:aB) (a2:Int) (a3 p3:List Int):Option (((List Int)) ⊕ (Int × (List Int))) :=
 if 0 <= (IntKind.wrap .i64 ((p3.length:Int) - 1)) ∧ (IntKind.wrap .i64 ((p3.length:Int) - 1)).toNat < p3.length then
  (p3[(IntKind.wrap .i64 ((p3.length:Int) - 1)).toNat]?).bind fun (x4:Int) =>
  (mE a0 x4 a2 a3).bind fun (r5:Int × Bool) =>
  if (r5.1 == x4) = true then
   some (.inr ((0,p3)))
  else
   (eR p3 r5.1).bind fun (r6:Bool) =>
   if (p3.length + 1) * 8 <= 140737488355328 then
    if (!(r5.2)) = true then
     some (.inr ((0,p3 ++ [r5.1])))
    else
     if r6 = true then
      (at? a0.Orders r5.1).bind fun (x7:b4) =>
      if x7.Accepts = true then
       some (.inr ((0,p3 ++ [r5.1])))
      else
       if r6 = true then
        some (.inr ((12,p3 ++ [r5.1])))
       else
        some (.inl (p3 ++ [r5.1]))
     else
      if r6 = true then
       some (.inr ((12,p3 ++ [r5.1])))
      else
       some (.inl (p3 ++ [r5.1]))
   else none
 else none
def qQ (a0:aB) (a2:Int) (a3 p3:List Int):Option (Int × (List Int)) :=
 gB (fun (w:(List Int))=>jU a0 a2 a3 w) p3
def pA (a0:aB) (a1 a2:Int) (a3:List Int):Option ((List Int) × Int) :=
 (lO a0 a1 a2 a3).bind fun (r1:Bool) =>
 if (!(r1)) = true then
  some ([],1)
 else
  (at? a3 0).bind fun (x2:Int) =>
  if (x2 != a1) = true then
   some ([],1)
  else
   (qQ a0 a2 a3 [a1]).bind fun (r10:Int × (List Int)) =>
   some (r10.2,r10.1)
def fH (a0 a1:List Int) (p1:Int):Option ((Int) ⊕ (Unit ⊕ Unit)) :=
 if decide (p1 < (a0.length:Int)) = true then
  (at? a0 p1).bind fun (x2:Int) =>
  (at? a1 p1).bind fun (x3:Int) =>
  if (x2 != x3) = true then
   some (.inr (.inr (())))
  else
   some (.inl (IntKind.wrap .i64 (p1 + 1)))
 else
  some (.inr (.inl ()))
def j5 (a0 a1:List Int) (p1:Int):Option (Unit ⊕ Unit) :=
 gB (fun (w:Int)=>fH a0 a1 w) p1
def gI (a0 a1:List Int):Option (Bool) :=
 if ((a0.length:Int) != (a1.length:Int)) = true then
  some false
 else
  (j5 a0 a1 0).bind fun (r4:Unit ⊕ Unit)=>Sum.elim (fun z5 =>
  some true) (fun z6 =>
  some false) r4
def mB (a0:aB) (a1:aA) (r2:(List Int) × Int):Option (Bool) :=
 if (r2.2 == 12) = true then
  some (a1.Kind == 1)
 else
  if (a1.Kind == 0) = true then
   (at? r2.1 (IntKind.wrap .i64 ((r2.1.length:Int) - 1))).bind fun (x5:Int) =>
   (at? a0.Orders x5).bind fun (x6:b4) =>
   (fZ x6 a1.Ask).bind fun (r7:Bool) =>
   some (!(r7))
  else
   some (false)
def fR (a0:aB) (a1:aA):Option (Bool) :=
 (lG a0).bind fun (r1:Int) =>
 if (r1 != 0) = true then
  some false
 else
  (pA a0 a1.Forum a1.Ask a1.Places).bind fun (r2:(List Int) × Int) =>
  if (r2.2 != 0) = true then
   if (r2.2 != 12) = true then
    some false
   else
    (gI r2.1 a1.Path).bind fun (r3:Bool) =>
    if (!(r3)) = true then
     some false
    else
     (mB a0 a1 r2).bind fun (r9:Bool) =>
     some r9
  else
   (gI r2.1 a1.Path).bind fun (r4:Bool) =>
   if (!(r4)) = true then
    some false
   else
    (mB a0 a1 r2).bind fun (r10:Bool) =>
    some r10
def lH (a0:aB):Option (Bool) :=
 (lF a0).bind fun (r1:(List aA) × Int) =>
 if (r1.2 == 0) = true then
  some ((r1.1.length:Int) == 0)
 else
  some false
def hJ:Option (Bool) :=
 (lS).bind fun (r1:aB) =>
 (lF r1).bind fun (r2:(List aA) × Int) =>
 if (0 + 1) * 72 <= 140737488355328 then
  if ((([]:List aA) ++ [(aA.mk 1 0 1 [0,0,0,0,1] [0,1,0])]).length + 1) * 72 <= 140737488355328 then
   if (((([]:List aA) ++ [(aA.mk 1 0 1 [0,0,0,0,1] [0,1,0])]) ++ [(aA.mk 0 0 6 [0,0,1,0,0] [0,1])]).length + 1) * 72 <= 140737488355328 then
    if ((((([]:List aA) ++ [(aA.mk 1 0 1 [0,0,0,0,1] [0,1,0])]) ++ [(aA.mk 0 0 6 [0,0,1,0,0] [0,1])]) ++ [(aA.mk 1 1 1 [1,0,0,0,1] [1,0,1])]).length + 1) * 72 <= 140737488355328 then
     if 0 <= 1 ∧ 1 < ((((([]:List aA) ++ [(aA.mk 1 0 1 [0,0,0,0,1] [0,1,0])]) ++ [(aA.mk 0 0 6 [0,0,1,0,0] [0,1])]) ++ [(aA.mk 1 1 1 [1,0,0,0,1] [1,0,1])]) ++ [(aA.mk 0 1 6 [1,0,0,0,0] [1])]).length then
      (((((([]:List aA) ++ [(aA.mk 1 0 1 [0,0,0,0,1] [0,1,0])]) ++ [(aA.mk 0 0 6 [0,0,1,0,0] [0,1])]) ++ [(aA.mk 1 1 1 [1,0,0,0,1] [1,0,1])]) ++ [(aA.mk 0 1 6 [1,0,0,0,0] [1])])[1]?).bind fun (x3:aA) =>
      if 0 <= 1 ∧ 1 < ((((([]:List aA) ++ [(aA.mk 1 0 1 [0,0,0,0,1] [0,1,0])]) ++ [(aA.mk 0 0 6 [0,0,1,0,0] [0,1])]) ++ [(aA.mk 1 1 1 [1,0,0,0,1] [1,0,1])]) ++ [(aA.mk 0 1 6 [1,0,0,0,0] [1])]).length then
       (((((([]:List aA) ++ [(aA.mk 1 0 1 [0,0,0,0,1] [0,1,0])]) ++ [(aA.mk 0 0 6 [0,0,1,0,0] [0,1])]) ++ [(aA.mk 1 1 1 [1,0,0,0,1] [1,0,1])]) ++ [(aA.mk 0 1 6 [1,0,0,0,0] [1])])[1]?).bind fun (x4:aA) =>
       if (r2.2 == 0) = true then
        (lV r2.1 ((((([]:List aA) ++ [(aA.mk 1 0 1 [0,0,0,0,1] [0,1,0])]) ++ [(aA.mk 0 0 6 [0,0,1,0,0] [0,1])]) ++ [(aA.mk 1 1 1 [1,0,0,0,1] [1,0,1])]) ++ [(aA.mk 0 1 6 [1,0,0,0,0] [1])])).bind fun (r5:Bool) =>
        if r5 = true then
         if 0 <= 0 ∧ 0 < ((((([]:List aA) ++ [(aA.mk 1 0 1 [0,0,0,0,1] [0,1,0])]) ++ [(aA.mk 0 0 6 [0,0,1,0,0] [0,1])]) ++ [(aA.mk 1 1 1 [1,0,0,0,1] [1,0,1])]) ++ [(aA.mk 0 1 6 [1,0,0,0,0] [1])]).length then
          (((((([]:List aA) ++ [(aA.mk 1 0 1 [0,0,0,0,1] [0,1,0])]) ++ [(aA.mk 0 0 6 [0,0,1,0,0] [0,1])]) ++ [(aA.mk 1 1 1 [1,0,0,0,1] [1,0,1])]) ++ [(aA.mk 0 1 6 [1,0,0,0,0] [1])])[0]?).bind fun (x6:aA) =>
          (fR r1 x6).bind fun (r7:Bool) =>
          if r7 = true then
           (fR r1 (aA.mk x3.Kind x3.Forum x3.Ask [0,1,1,1,1] x3.Path)).bind fun (r8:Bool) =>
           if r8 = true then
            (fR r1 (aA.mk 1 x4.Forum x4.Ask x4.Places x4.Path)).bind fun (r9:Bool) =>
            if (!(r9)) = true then
             (lH r1).bind fun (r10:Bool) =>
             if (!(r10)) = true then
              (lH (aB.mk [] [] [] [] [] [] [] [])).bind fun (r11:Bool) =>
              some r11
             else
              some false
            else
             some false
           else
            some false
          else
           some false
         else none
        else
         some false
       else
        some false
      else none
     else none
    else none
   else none
  else none
 else none
def f9 (a0:aB) (p1:Int):Option ((Int) ⊕ (Unit ⊕ Unit)) :=
 if decide (p1 < (a0.Cities.length:Int)) = true then
  if decide (p1 < 50) = true then
   (at? a0.Cities p1).bind fun (x2:dT) =>
   if decide ((x2.Feasts.length:Int) > 70) = true then
    some (.inr (.inr (())))
   else
    (at? a0.Cities p1).bind fun (x3:dT) =>
    if decide ((x3.Shut.length:Int) > 210) = true then
     some (.inr (.inr (())))
    else
     (at? a0.Cities p1).bind fun (x4:dT) =>
     if decide ((x4.Rest.length:Int) > 8) = true then
      some (.inr (.inr (())))
     else
      some (.inl (IntKind.wrap .i64 (p1 + 1)))
  else
   some (.inr (.inl ()))
 else
  some (.inr (.inl ()))
def mU (a0:aB) (p1:Int):Option (Unit ⊕ Unit) :=
 gB (fun (w:Int)=>f9 a0 w) p1
def fY (a0:aB) (p8:Int):Option ((Int) ⊕ (Unit ⊕ Unit)) :=
 if decide (p8 < (a0.Orders.length:Int)) = true then
  if decide (p8 < 50) = true then
   (at? a0.Orders p8).bind fun (x9:b4) =>
   if decide ((x9.Choices.length:Int) > 40) = true then
    some (.inr (.inr (())))
   else
    (at? a0.Orders p8).bind fun (x10:b4) =>
    if decide ((x10.Rules.length:Int) > 40) = true then
     some (.inr (.inr (())))
    else
     some (.inl (IntKind.wrap .i64 (p8 + 1)))
  else
   some (.inr (.inl ()))
 else
  some (.inr (.inl ()))
def mJ (a0:aB) (p8:Int):Option (Unit ⊕ Unit) :=
 gB (fun (w:Int)=>fY a0 w) p8
def kD (a0:aB):Option (Bool) :=
 (mU a0 0).bind fun (r5:Unit ⊕ Unit)=>Sum.elim (fun z6 =>
 (mJ a0 0).bind fun (r11:Unit ⊕ Unit)=>Sum.elim (fun z12 =>
  if decide ((a0.Currencies.length:Int) < 50) = true then
    if decide ((a0.Cities.length:Int) < 50) = true then
     if decide ((a0.Groups.length:Int) < 50) = true then
      if decide ((a0.Firms.length:Int) < 210) = true then
       if decide ((a0.Orders.length:Int) < 50) = true then
        if decide ((a0.Usances.length:Int) < 110) = true then
         if decide ((a0.Rates.length:Int) < 110) = true then
          some (decide ((a0.Halts.length:Int) < 50))
         else
          some false
        else
         some false
       else
        some false
      else
       some false
     else
      some false
    else
     some false
   else
    some false) (fun z13 =>
  some false) r11) (fun z7 =>
 some false) r5
def kM (a0:aB):Option (Bool) :=
 (kD a0).bind fun (r1:Bool) =>
 if r1 = true then
  some (decide ((a0.Orders.length:Int) <= 3))
 else
  some false
def eT (a0:aB) (a1:Int) (r1:Bool) (r3:(List aA) × Int) (p4:Int):Option ((Int) ⊕ (Unit ⊕ Unit)) :=
 if decide (p4 < (r3.1.length:Int)) = true then
  (at? r3.1 p4).bind fun (x5:aA) =>
  (fR a0 x5).bind fun (r6:Bool) =>
  if (!(r6)) = true then
   some (.inr (.inr (())))
  else
   if decide (p4 > 0) = true then
    (at? r3.1 (IntKind.wrap .i64 (p4 - 1))).bind fun (x7:aA) =>
    (at? r3.1 p4).bind fun (x8:aA) =>
    if decide (x7.Forum < x8.Forum) = true then
     some (.inl (IntKind.wrap .i64 (p4 + 1)))
    else
     if (x7.Forum == x8.Forum) = true then
      if decide (x7.Ask < x8.Ask) = true then
       some (.inl (IntKind.wrap .i64 (p4 + 1)))
      else
       if (x7.Ask == x8.Ask) = true then
        if (!(decide (x7.Kind < x8.Kind))) = true then
         some (.inr (.inr (())))
        else
         some (.inl (IntKind.wrap .i64 (p4 + 1)))
       else
        some (.inr (.inr (())))
     else
      some (.inr (.inr (())))
   else
    some (.inl (IntKind.wrap .i64 (p4 + 1)))
 else
  some (.inr (.inl ()))
def gK (a0:aB) (a1:Int) (r1:Bool) (r3:(List aA) × Int) (p4:Int):Option (Unit ⊕ Unit) :=
 gB (fun (w:Int)=>eT a0 a1 r1 r3 w) p4
def iD (a0:aB) (a1:Int):Option (Bool) :=
 (hJ).bind fun (r1:Bool) =>
 (kM a0).bind fun (r2:Bool) =>
 if (!(r2)) = true then
  some r1
 else
  (lF a0).bind fun (r3:(List aA) × Int) =>
  if (r3.2 != 0) = true then
   if r1 = true then
    if (r3.2 == 0) = true then
     some true
    else
     some ((r3.1.length:Int) == 0)
   else
    some false
  else
   if ((r3.1.length:Int) == 0) = true then
    if r1 = true then
     if (r3.2 == 0) = true then
      some true
     else
      some ((r3.1.length:Int) == 0)
    else
     some false
   else
    (gK a0 a1 r1 r3 0).bind fun (r9:Unit ⊕ Unit)=>Sum.elim (fun z10 =>
    if (r3.1.length:Int) = 0 then
      none
     else
      (at? r3.1 ((IntKind.wrap .i64 a1).tmod (r3.1.length:Int))).bind fun (x12:aA) =>
      if (0 + x12.Path.length) * 8 <= 140737488355328 then
       if ((([]:List Int) ++ x12.Path).length + 1) * 8 <= 140737488355328 then
        if r1 = true then
         (fR a0 (aA.mk x12.Kind x12.Forum x12.Ask x12.Places ((([]:List Int) ++ x12.Path) ++ [0]))).bind fun (r13:Bool) =>
         if (!(r13)) = true then
          (fR a0 (aA.mk (IntKind.wrap .i64 (1 - x12.Kind)) x12.Forum x12.Ask x12.Places x12.Path)).bind fun (r14:Bool) =>
          if (!(r14)) = true then
           (lH a0).bind fun (r15:Bool) =>
           some (!(r15))
          else
           some false
         else
          some false
        else
         some false
       else none
      else none) (fun z11 =>
    some false) r9
end
end Go.Proofs.Ytjjcaapdaldedaa
