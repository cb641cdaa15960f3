/- What the functions compute, as plain definitions. Printed by a program. -/
import Derived.Test.YtjjcaapdaldedaaTab
set_option linter.unusedVariables false
set_option linter.unusedSimpArgs false
namespace Go.Proofs.Ytjjcaapdaldedaa
noncomputable section
open Vm
open Go.RowKit
def dR (a0:ByteArray) (a1 p1:Int) (p2:List aV):Option ((Int × (List aV)) ⊕ ((List aV))) :=
 if decide (p1 < 22) = true then
  if (p1 != a1) = true then
   if (p2.length + 1) * 48 <= 140737488355328 then
    some (.inl (IntKind.wrap .i64 (p1 + 1),p2 ++ [(aV.mk p1 (lB.mk 1 1 []))]))
   else none
  else
   some (.inl (IntKind.wrap .i64 (p1 + 1),p2))
 else
  some (.inr (p2))
def lV (a0:ByteArray) (a1 p1:Int) (p2:List aV):Option ((List aV)) :=
 eO (fun (w:Int × (List aV))=>dR a0 a1 w.1 w.2) (p1,p2)
def fP (a0:ByteArray) (a1:Int):Option (aC) :=
 (lV a0 a1 0 []).bind fun (r4:(List aV)) =>
 some (aC.mk a0 false [] r4)
def mM:Option (aB) :=
 (fP (⟨#[103,101,110,101,118,97]⟩ : ByteArray) (-1)).bind fun (r1:aC) =>
 (fP (⟨#[108,111,110,100,111,110]⟩ : ByteArray) 6).bind fun (r2:aC) =>
 some (aB.mk [] [] [] [] [(aC.mk r1.Name r1.Accepts [(aK.mk 1 4 true),(aK.mk 6 2 false)] r1.Rules),(aC.mk r2.Name r2.Accepts [(aK.mk 1 1 true)] r2.Rules)] [] [] [])
def iT (a0:aB) (p1:Int) (p2:List ByteArray):Option ((Int × (List ByteArray)) ⊕ ((List ByteArray))) :=
 if decide (p1 < (a0.Cities.length:Int)) = true then
  (at? a0.Cities p1).bind fun (x3:aW) =>
  if (p2.length + 1) * 16 <= 140737488355328 then
   some (.inl (IntKind.wrap .i64 (p1 + 1),p2 ++ [x3.Name]))
  else none
 else
  some (.inr (p2))
def uU (a0:aB) (p1:Int) (p2:List ByteArray):Option ((List ByteArray)) :=
 eO (fun (w:Int × (List ByteArray))=>iT a0 w.1 w.2) (p1,p2)
def i7 (a0:aB) (r5:(List ByteArray)) (p6:Int) (p7:List ByteArray):Option ((Int × (List ByteArray)) ⊕ ((List ByteArray))) :=
 if decide (p6 < (a0.Firms.length:Int)) = true then
  (at? a0.Firms p6).bind fun (x8:bO) =>
  if (p7.length + 1) * 16 <= 140737488355328 then
   some (.inl (IntKind.wrap .i64 (p6 + 1),p7 ++ [x8.Name]))
  else none
 else
  some (.inr (p7))
def uO (a0:aB) (r5:(List ByteArray)) (p6:Int) (p7:List ByteArray):Option ((List ByteArray)) :=
 eO (fun (w:Int × (List ByteArray))=>i7 a0 r5 w.1 w.2) (p6,p7)
def jE (a0:aB) (r10 r5:(List ByteArray)) (p11:Int) (p12:List ByteArray):Option ((Int × (List ByteArray)) ⊕ ((List ByteArray))) :=
 if decide (p11 < (a0.Orders.length:Int)) = true then
  (at? a0.Orders p11).bind fun (x13:aC) =>
  if (p12.length + 1) * 16 <= 140737488355328 then
   some (.inl (IntKind.wrap .i64 (p11 + 1),p12 ++ [x13.Name]))
  else none
 else
  some (.inr (p12))
def uT (a0:aB) (r10 r5:(List ByteArray)) (p11:Int) (p12:List ByteArray):Option ((List ByteArray)) :=
 eO (fun (w:Int × (List ByteArray))=>jE a0 r10 r5 w.1 w.2) (p11,p12)
def sP (a0:aB):Option ((List ByteArray) × (List ByteArray) × (List ByteArray)) :=
 (uU a0 0 []).bind fun (r5:(List ByteArray)) =>
 (uO a0 r5 0 []).bind fun (r10:(List ByteArray)) =>
 (uT a0 r10 r5 0 []).bind fun (r15:(List ByteArray)) =>
 some (r5,r10,r15)
def eJ (a0:ByteArray) (p1 x2:Int) (p3:Bool):Option (Unit ⊕ Unit) :=
 if (!(p3)) = true then
  if (p1 == 0) = true then
   some (.inr (()))
  else
   if (x2 != 95) = true then
    if decide (x2 < 48) = true then
     some (.inr (()))
    else
     if decide (x2 > 57) = true then
      some (.inr (()))
     else
      some (.inl ())
   else
    some (.inl ())
 else
  some (.inl ())
def dS (a0:ByteArray) (p1:Int):Option ((Int) ⊕ (Unit ⊕ Unit)) :=
 if decide (p1 < ((lM a0).length:Int)) = true then
  (at? (lM a0) p1).bind fun (x2:Int) =>
  if decide (x2 ≥ 97) = true then
   if decide (x2 <= 122) = true then
    (eJ a0 p1 x2 true).bind fun (r4:Unit ⊕ Unit)=>Sum.elim (fun z5 =>
    some (.inl (IntKind.wrap .i64 (p1 + 1)))) (fun z6 =>
    some (.inr (.inr (())))) r4
   else
    if decide (x2 ≥ 65) = true then
     (eJ a0 p1 x2 (decide (x2 <= 90))).bind fun (r7:Unit ⊕ Unit)=>Sum.elim (fun z8 =>
     some (.inl (IntKind.wrap .i64 (p1 + 1)))) (fun z9 =>
     some (.inr (.inr (())))) r7
    else
     (eJ a0 p1 x2 false).bind fun (r10:Unit ⊕ Unit)=>Sum.elim (fun z11 =>
     some (.inl (IntKind.wrap .i64 (p1 + 1)))) (fun z12 =>
     some (.inr (.inr (())))) r10
  else
   if decide (x2 ≥ 65) = true then
    (eJ a0 p1 x2 (decide (x2 <= 90))).bind fun (r13:Unit ⊕ Unit)=>Sum.elim (fun z14 =>
    some (.inl (IntKind.wrap .i64 (p1 + 1)))) (fun z15 =>
    some (.inr (.inr (())))) r13
   else
    (eJ a0 p1 x2 false).bind fun (r16:Unit ⊕ Unit)=>Sum.elim (fun z17 =>
    some (.inl (IntKind.wrap .i64 (p1 + 1)))) (fun z18 =>
    some (.inr (.inr (())))) r16
 else
  some (.inr (.inl ()))
def oP (a0:ByteArray) (p1:Int):Option (Unit ⊕ Unit) :=
 eO (fun (w:Int)=>dS a0 w) p1
def l9 (a0:ByteArray):Option (Bool) :=
 if (a0.toList == ByteArray.empty.toList) = true then
  some false
 else
  if decide ((a0.size:Int) > 20) = true then
   some false
  else
   (oP a0 0).bind fun (r19:Unit ⊕ Unit)=>Sum.elim (fun z20 =>
   some true) (fun z21 =>
   some false) r19
def aX (a0:List ByteArray) (a1:ByteArray) (p1:Int):Option ((Int) ⊕ (Unit ⊕ Int)) :=
 if decide (p1 < (a0.length:Int)) = true then
  (at? a0 p1).bind fun (x2:ByteArray) =>
  if (a1.toList == x2.toList) = true then
   some (.inr (.inr (p1)))
  else
   some (.inl (IntKind.wrap .i64 (p1 + 1)))
 else
  some (.inr (.inl ()))
def eI (a0:List ByteArray) (a1:ByteArray) (p1:Int):Option (Unit ⊕ Int) :=
 eO (fun (w:Int)=>aX a0 a1 w) p1
def bV (a0:List ByteArray) (a1:ByteArray):Option (Int) :=
 (eI a0 a1 0).bind fun (r4:Unit ⊕ Int)=>Sum.elim (fun z5 =>
 some (-1)) (fun z6 =>
 some z6) r4
def bN (a0:List ByteArray) (a1:ByteArray):Option (Bool) :=
 (bV a0 a1).bind fun (r1:Int) =>
 some (decide (r1 ≥ 0))
def gO (a0:List ByteArray) (a1:Int):Option (Int) :=
 (at? a0 a1).bind fun (x1:ByteArray) =>
 (l9 x1).bind fun (r2:Bool) =>
 if (!(r2)) = true then
  some 2
 else
  if yF a0.length 0 a1 then
   (at? a0 a1).bind fun (x3:ByteArray) =>
   (bN (lZ a0 0 a1) x3).bind fun (r4:Bool) =>
   if r4 = true then
    some 5
   else
    some 0
  else none
def oG (a0:Int):Option (Bool) :=
 some true
def jP (a0:List ByteArray) (p1:Int):Option ((Int) ⊕ (Unit ⊕ Int)) :=
 if decide (p1 < (a0.length:Int)) = true then
  (gO a0 p1).bind fun (r2:Int) =>
  if (r2 != 0) = true then
   some (.inr (.inr (r2)))
  else
   (oG p1).bind fun (r3:Bool) =>
   if (!(r3)) = true then
    some (.inr (.inr (1)))
   else
    some (.inl (IntKind.wrap .i64 (p1 + 1)))
 else
  some (.inr (.inl ()))
def wE (a0:List ByteArray) (p1:Int):Option (Unit ⊕ Int) :=
 eO (fun (w:Int)=>jP a0 w) p1
def kK (a0:List ByteArray) (a1:Int):Option (Int) :=
 if decide ((a0.length:Int) > a1) = true then
  some 6
 else
  (wE a0 0).bind fun (r5:Unit ⊕ Int)=>Sum.elim (fun z6 =>
  some 0) (fun z7 =>
  some z7) r5
def gL (a0 a1:Int):Option (Bool) :=
 if decide (a0 ≥ 0) = true then
  some (decide (a0 < a1))
 else
  some false
def dQ (a0:List Int) (a1 a2 p1:Int):Option ((Int) ⊕ (Unit ⊕ Unit)) :=
 if decide (p1 < (a0.length:Int)) = true then
  (at? a0 p1).bind fun (x2:Int) =>
  if decide (x2 < a1) = true then
   some (.inr (.inr (())))
  else
   if decide (x2 > a2) = true then
    some (.inr (.inr (())))
   else
    if decide (p1 > 0) = true then
     (at? a0 (IntKind.wrap .i64 (p1 - 1))).bind fun (x3:Int) =>
     if decide (x2 <= x3) = true then
      some (.inr (.inr (())))
     else
      some (.inl (IntKind.wrap .i64 (p1 + 1)))
    else
     some (.inl (IntKind.wrap .i64 (p1 + 1)))
 else
  some (.inr (.inl ()))
def oR (a0:List Int) (a1 a2 p1:Int):Option (Unit ⊕ Unit) :=
 eO (fun (w:Int)=>dQ a0 a1 a2 w) p1
def gK (a0:List Int) (a1 a2:Int):Option (Bool) :=
 (oR a0 a1 a2 0).bind fun (r4:Unit ⊕ Unit)=>Sum.elim (fun z5 =>
 some true) (fun z6 =>
 some false) r4
def fN (a0:aB) (a1:aW) (p1:Int):Option ((Int) ⊕ (Unit ⊕ Unit)) :=
 if decide (p1 < (a1.Feasts.length:Int)) = true then
  (at? a1.Feasts p1).bind fun (x2:Int) =>
  if decide ((x2.tmod 100) < 1) = true then
   some (.inr (.inr (())))
  else
   if decide ((x2.tmod 100) > 31) = true then
    some (.inr (.inr (())))
   else
    some (.inl (IntKind.wrap .i64 (p1 + 1)))
 else
  some (.inr (.inl ()))
def sH (a0:aB) (a1:aW) (p1:Int):Option (Unit ⊕ Unit) :=
 eO (fun (w:Int)=>fN a0 a1 w) p1
def pK (a0:aB) (a1:aW):Option (Bool) :=
 (sH a0 a1 0).bind fun (r3:Unit ⊕ Unit)=>Sum.elim (fun z4 =>
 if decide ((a1.Feasts.length:Int) > 60) = true then
   some false
  else
   if decide ((a1.Shut.length:Int) > 200) = true then
    some false
   else
    (gL a1.Order (a0.Orders.length:Int)).bind fun (r6:Bool) =>
    if (!(r6)) = true then
     some false
    else
     (gL a1.Currency (a0.Currencies.length:Int)).bind fun (r7:Bool) =>
     if (!(r7)) = true then
      some false
     else
      (gK a1.Rest 0 6).bind fun (r8:Bool) =>
      if r8 = true then
       (gK a1.Feasts 101 1231).bind fun (r9:Bool) =>
       if r9 = true then
        (gK a1.Shut 0 100000).bind fun (r10:Bool) =>
        some r10
       else
        some false
      else
       some false) (fun z5 =>
 some false) r3
def hY (a0:Int) (a1:aB):Option (Bool) :=
 (at? a1.Cities a0).bind fun (x1:aW) =>
 (pK a1 x1).bind fun (r2:Bool) =>
 some r2
def jM (a0:List ByteArray) (a2:aB) (p1:Int):Option ((Int) ⊕ (Unit ⊕ Int)) :=
 if decide (p1 < (a0.length:Int)) = true then
  (gO a0 p1).bind fun (r2:Int) =>
  if (r2 != 0) = true then
   some (.inr (.inr (r2)))
  else
   (hY p1 a2).bind fun (r3:Bool) =>
   if (!(r3)) = true then
    some (.inr (.inr (1)))
   else
    some (.inl (IntKind.wrap .i64 (p1 + 1)))
 else
  some (.inr (.inl ()))
def wK (a0:List ByteArray) (a2:aB) (p1:Int):Option (Unit ⊕ Int) :=
 eO (fun (w:Int)=>jM a0 a2 w) p1
def kG (a0:List ByteArray) (a1:Int) (a2:aB):Option (Int) :=
 if decide ((a0.length:Int) > a1) = true then
  some 6
 else
  (wK a0 a2 0).bind fun (r5:Unit ⊕ Int)=>Sum.elim (fun z6 =>
  some 0) (fun z7 =>
  some z7) r5
def fV (a0:Int) (a1:aB):Option (Bool) :=
 (at? a1.Firms a0).bind fun (x1:bO) =>
 (gL x1.City (a1.Cities.length:Int)).bind fun (r2:Bool) =>
 if r2 = true then
  (at? a1.Firms a0).bind fun (x3:bO) =>
  (gL x3.Group (a1.Groups.length:Int)).bind fun (r4:Bool) =>
  some r4
 else
  some false
def jN (a0:List ByteArray) (a2:aB) (p1:Int):Option ((Int) ⊕ (Unit ⊕ Int)) :=
 if decide (p1 < (a0.length:Int)) = true then
  (gO a0 p1).bind fun (r2:Int) =>
  if (r2 != 0) = true then
   some (.inr (.inr (r2)))
  else
   (fV p1 a2).bind fun (r3:Bool) =>
   if (!(r3)) = true then
    some (.inr (.inr (1)))
   else
    some (.inl (IntKind.wrap .i64 (p1 + 1)))
 else
  some (.inr (.inl ()))
def xC (a0:List ByteArray) (a2:aB) (p1:Int):Option (Unit ⊕ Int) :=
 eO (fun (w:Int)=>jN a0 a2 w) p1
def kN (a0:List ByteArray) (a1:Int) (a2:aB):Option (Int) :=
 if decide ((a0.length:Int) > a1) = true then
  some 6
 else
  (xC a0 a2 0).bind fun (r5:Unit ⊕ Int)=>Sum.elim (fun z6 =>
  some 0) (fun z7 =>
  some z7) r5
def eQ (a0:aC) (p1:Int) (p2:List Int):Option ((Int × (List Int)) ⊕ (((List Int)) ⊕ Unit)) :=
 if decide (p1 < (a0.Choices.length:Int)) = true then
  (at? a0.Choices p1).bind fun (x3:aK) =>
  if (p2.length + 1) * 8 <= 140737488355328 then
   (gL x3.By 5).bind fun (r4:Bool) =>
   if (!(r4)) = true then
    some (.inr (.inr (())))
   else
    some (.inl (IntKind.wrap .i64 (p1 + 1),p2 ++ [x3.Ask]))
  else none
 else
  some (.inr (.inl p2))
def qQ (a0:aC) (p1:Int) (p2:List Int):Option (((List Int)) ⊕ Unit) :=
 eO (fun (w:Int × (List Int))=>eQ a0 w.1 w.2) (p1,p2)
def eS (a0:aC) (z7:(List Int)) (p9:Int) (p10:List Int):Option ((Int × (List Int)) ⊕ ((List Int))) :=
 if decide (p9 < (a0.Rules.length:Int)) = true then
  (at? a0.Rules p9).bind fun (x11:aV) =>
  if (p10.length + 1) * 8 <= 140737488355328 then
   some (.inl (IntKind.wrap .i64 (p9 + 1),p10 ++ [x11.Ask]))
  else none
 else
  some (.inr (p10))
def qP (a0:aC) (z7:(List Int)) (p9:Int) (p10:List Int):Option ((List Int)) :=
 eO (fun (w:Int × (List Int))=>eS a0 z7 w.1 w.2) (p9,p10)
def nJ (a0:aC):Option (Bool) :=
 (qQ a0 0 []).bind fun (r6:((List Int)) ⊕ Unit)=>Sum.elim (fun z7 =>
 (qP a0 z7 0 []).bind fun (r13:(List Int)) =>
  (gK z7 0 21).bind fun (r14:Bool) =>
  if r14 = true then
   (gK r13 0 21).bind fun (r15:Bool) =>
   some r15
  else
   some false) (fun z8 =>
 some false) r6
def hJ (a0:Int) (a1:aB):Option (Bool) :=
 (at? a1.Orders a0).bind fun (x1:aC) =>
 (nJ x1).bind fun (r2:Bool) =>
 some r2
def jL (a0:List ByteArray) (a2:aB) (p1:Int):Option ((Int) ⊕ (Unit ⊕ Int)) :=
 if decide (p1 < (a0.length:Int)) = true then
  (gO a0 p1).bind fun (r2:Int) =>
  if (r2 != 0) = true then
   some (.inr (.inr (r2)))
  else
   (hJ p1 a2).bind fun (r3:Bool) =>
   if (!(r3)) = true then
    some (.inr (.inr (1)))
   else
    some (.inl (IntKind.wrap .i64 (p1 + 1)))
 else
  some (.inr (.inl ()))
def xF (a0:List ByteArray) (a2:aB) (p1:Int):Option (Unit ⊕ Int) :=
 eO (fun (w:Int)=>jL a0 a2 w) p1
def kI (a0:List ByteArray) (a1:Int) (a2:aB):Option (Int) :=
 if decide ((a0.length:Int) > a1) = true then
  some 6
 else
  (xF a0 a2 0).bind fun (r5:Unit ⊕ Int)=>Sum.elim (fun z6 =>
  some 0) (fun z7 =>
  some z7) r5
def dG (a0:aB) (p1:Int) (x2:aO) (p5:Int):Option ((Int) ⊕ (Unit ⊕ Unit)) :=
 if decide (p5 < ((lZ a0.Usances 0 p1).length:Int)) = true then
  (at? (lZ a0.Usances 0 p1) p5).bind fun (x6:aO) =>
  if (x6.From == x2.From) = true then
   if (x6.To == x2.To) = true then
    some (.inr (.inr (())))
   else
    some (.inl (IntKind.wrap .i64 (p5 + 1)))
  else
   some (.inl (IntKind.wrap .i64 (p5 + 1)))
 else
  some (.inr (.inl ()))
def mW (a0:aB) (p1:Int) (x2:aO) (p5:Int):Option (Unit ⊕ Unit) :=
 eO (fun (w:Int)=>dG a0 p1 x2 w) p5
def dF (a0:aB) (p1:Int):Option ((Int) ⊕ (Unit ⊕ Int)) :=
 if decide (p1 < (a0.Usances.length:Int)) = true then
  (at? a0.Usances p1).bind fun (x2:aO) =>
  (gL x2.From (a0.Cities.length:Int)).bind fun (r3:Bool) =>
  if (!(r3)) = true then
   some (.inr (.inr (1)))
  else
   (gL x2.To (a0.Cities.length:Int)).bind fun (r4:Bool) =>
   if (!(r4)) = true then
    some (.inr (.inr (1)))
   else
    if decide (x2.Days < 1) = true then
     some (.inr (.inr (1)))
    else
     if decide (x2.Days > 20000) = true then
      some (.inr (.inr (1)))
     else
      if yF a0.Usances.length 0 p1 then
       (mW a0 p1 x2 0).bind fun (r7:Unit ⊕ Unit)=>Sum.elim (fun z8 =>
       some (.inl (IntKind.wrap .i64 (p1 + 1)))) (fun z9 =>
       some (.inr (.inr (5)))) r7
      else none
 else
  some (.inr (.inl ()))
def rZ (a0:aB) (p1:Int):Option (Unit ⊕ Int) :=
 eO (fun (w:Int)=>dF a0 w) p1
def kM (a0:aB):Option (Int) :=
 if decide ((a0.Usances.length:Int) > 100) = true then
  some 6
 else
  (rZ a0 0).bind fun (r11:Unit ⊕ Int)=>Sum.elim (fun z12 =>
  some 0) (fun z13 =>
  some z13) r11
def fL (a0:aB) (p1:Int):Option ((Int) ⊕ (Unit ⊕ Unit)) :=
 if decide (p1 < (a0.Rates.length:Int)) = true then
  (at? a0.Rates p1).bind fun (x2:bK) =>
  (gL x2.From (a0.Currencies.length:Int)).bind fun (r3:Bool) =>
  if (!(r3)) = true then
   some (.inr (.inr (())))
  else
   (gL x2.To (a0.Currencies.length:Int)).bind fun (r4:Bool) =>
   if (!(r4)) = true then
    some (.inr (.inr (())))
   else
    if (x2.From == x2.To) = true then
     some (.inr (.inr (())))
    else
     (gL (IntKind.wrap .i64 (x2.Num - 1)) 1073741824).bind fun (r5:Bool) =>
     if (!(r5)) = true then
      some (.inr (.inr (())))
     else
      (gL (IntKind.wrap .i64 (x2.Den - 1)) 1073741824).bind fun (r6:Bool) =>
      if (!(r6)) = true then
       some (.inr (.inr (())))
      else
       (gL x2.Since 100001).bind fun (r7:Bool) =>
       if (!(r7)) = true then
        some (.inr (.inr (())))
       else
        some (.inl (IntKind.wrap .i64 (p1 + 1)))
 else
  some (.inr (.inl ()))
def sD (a0:aB) (p1:Int):Option (Unit ⊕ Unit) :=
 eO (fun (w:Int)=>fL a0 w) p1
def fM (a0:aB) (p11:Int):Option ((Int) ⊕ (Unit ⊕ Unit)) :=
 if decide (p11 < (a0.Halts.length:Int)) = true then
  (at? a0.Halts p11).bind fun (x12:bR) =>
  (gL x12.Order (a0.Orders.length:Int)).bind fun (r13:Bool) =>
  if (!(r13)) = true then
   some (.inr (.inr (())))
  else
   if decide (x12.From < 0) = true then
    some (.inr (.inr (())))
   else
    if decide (x12.From > x12.To) = true then
     some (.inr (.inr (())))
    else
     if decide (x12.To > 100000) = true then
      some (.inr (.inr (())))
     else
      some (.inl (IntKind.wrap .i64 (p11 + 1)))
 else
  some (.inr (.inl ()))
def sF (a0:aB) (p11:Int):Option (Unit ⊕ Unit) :=
 eO (fun (w:Int)=>fM a0 w) p11
def pF (a0:aB):Option (Int) :=
 if decide ((a0.Rates.length:Int) > 100) = true then
  some 6
 else
  (sD a0 0).bind fun (r8:Unit ⊕ Unit)=>Sum.elim (fun z9 =>
  if decide ((a0.Halts.length:Int) > 20) = true then
    some 6
   else
    (sF a0 0).bind fun (r14:Unit ⊕ Unit)=>Sum.elim (fun z15 =>
    some 0) (fun z16 =>
    some 1) r14) (fun z10 =>
  some 1) r8
def eR (a0:aB) (r1:(List ByteArray) × (List ByteArray) × (List ByteArray)) (p4:Int):Option ((Int) ⊕ (Unit ⊕ Unit)) :=
 if decide (p4 < (a0.Groups.length:Int)) = true then
  (at? a0.Groups p4).bind fun (x5:bI) =>
  (gL x5.Grade 10).bind fun (r6:Bool) =>
  if (!(r6)) = true then
   some (.inr (.inr (())))
  else
   some (.inl (IntKind.wrap .i64 (p4 + 1)))
 else
  some (.inr (.inl ()))
def qT (a0:aB) (r1:(List ByteArray) × (List ByteArray) × (List ByteArray)) (p4:Int):Option (Unit ⊕ Unit) :=
 eO (fun (w:Int)=>eR a0 r1 w) p4
def gN (a0:aB):Option (Int) :=
 (sP a0).bind fun (r1:(List ByteArray) × (List ByteArray) × (List ByteArray)) =>
 (kK a0.Currencies 8).bind fun (r2:Int) =>
 if (r2 != 0) = true then
  some r2
 else
  (kG r1.1 40 a0).bind fun (r3:Int) =>
  if (r3 != 0) = true then
   some r3
  else
   if decide ((a0.Groups.length:Int) > 20) = true then
    some 6
   else
    (qT a0 r1 0).bind fun (r7:Unit ⊕ Unit)=>Sum.elim (fun z8 =>
    (kN r1.2.1 200 a0).bind fun (r10:Int) =>
     if (r10 != 0) = true then
      some r10
     else
      (kI r1.2.2 20 a0).bind fun (r11:Int) =>
      if (r11 != 0) = true then
       some r11
      else
       (kM a0).bind fun (r12:Int) =>
       if (r12 != 0) = true then
        some r12
       else
        (pF a0).bind fun (r13:Int) =>
        some r13) (fun z9 =>
    some 1) r7
def iJ (a0:aC) (a1 p1:Int):Option ((Int) ⊕ (Unit ⊕ (Int × Bool))) :=
 if decide (p1 < (a0.Choices.length:Int)) = true then
  (at? a0.Choices p1).bind fun (x2:aK) =>
  if (x2.Ask == a1) = true then
   if (x2.By != 0) = true then
    some (.inr (.inr ((x2.By,x2.Whole))))
   else
    some (.inl (IntKind.wrap .i64 (p1 + 1)))
  else
   some (.inl (IntKind.wrap .i64 (p1 + 1)))
 else
  some (.inr (.inl ()))
def sN (a0:aC) (a1 p1:Int):Option (Unit ⊕ (Int × Bool)) :=
 eO (fun (w:Int)=>iJ a0 a1 w) p1
def mA (a0:aC) (a1:Int):Option (Int × Bool) :=
 (sN a0 a1 0).bind fun (r5:Unit ⊕ (Int × Bool))=>Sum.elim (fun z6 =>
 some (0,false)) (fun z7 =>
 some (z7.1,z7.2)) r5
def aE (a0:List Int):Option ((List Int)):=if a0.length * 8 <= 140737488355328 then some a0 else none
def nD (a0:aV) (a1:Int):Option (Bool) :=
 some (a0.Ask == a1)
def aY (a0:List aV) (a1 p1:Int):Option ((Int) ⊕ (Unit ⊕ Int)) :=
 if decide (p1 < (a0.length:Int)) = true then
  (at? a0 p1).bind fun (x2:aV) =>
  (nD x2 a1).bind fun (r3:Bool) =>
  if r3 = true then
   some (.inr (.inr (p1)))
  else
   some (.inl (IntKind.wrap .i64 (p1 + 1)))
 else
  some (.inr (.inl ()))
def dA (a0:List aV) (a1 p1:Int):Option (Unit ⊕ Int) :=
 eO (fun (w:Int)=>aY a0 a1 w) p1
def b8 (a0:List aV) (a1:Int):Option (Int) :=
 (dA a0 a1 0).bind fun (r5:Unit ⊕ Int)=>Sum.elim (fun z6 =>
 some (-1)) (fun z7 =>
 some z7) r5
def bQ (a0:List aV) (a1:Int):Option (Bool) :=
 (b8 a0 a1).bind fun (r1:Int) =>
 some (decide (r1 ≥ 0))
def eW (a0:aC) (a1:Int):Option (Bool) :=
 (bQ a0.Rules a1).bind fun (r1:Bool) =>
 some r1
def dC (a0:List Int) (a1 p1:Int):Option ((Int) ⊕ (Unit ⊕ Int)) :=
 if decide (p1 < (a0.length:Int)) = true then
  (at? a0 p1).bind fun (x2:Int) =>
  if (a1 == x2) = true then
   some (.inr (.inr (p1)))
  else
   some (.inl (IntKind.wrap .i64 (p1 + 1)))
 else
  some (.inr (.inl ()))
def kC (a0:List Int) (a1 p1:Int):Option (Unit ⊕ Int) :=
 eO (fun (w:Int)=>dC a0 a1 w) p1
def j7 (a0:List Int) (a1:Int):Option (Int) :=
 (kC a0 a1 0).bind fun (r4:Unit ⊕ Int)=>Sum.elim (fun z5 =>
 some (-1)) (fun z6 =>
 some z6) r4
def b6 (a0:List Int) (a1:Int):Option (Bool) :=
 (j7 a0 a1).bind fun (r1:Int) =>
 some (decide (r1 ≥ 0))
def mE (a0:Int):Option (Bool) :=
 some (a0 != a0)
def mD (a0 a1:Int):Option (Int) :=
 (mE a0).bind fun (r1:Bool) =>
 (mE a1).bind fun (r2:Bool) =>
 if r1 = true then
  if r2 = true then
   some 0
  else
   some (-1)
 else
  if r2 = true then
   some 1
  else
   if decide (a0 < a1) = true then
    some (-1)
   else
    if decide (a0 > a1) = true then
     some 1
    else
     some 0
def bL (a0 a1:List Int) (p1:Int):Option ((Int) ⊕ (Unit ⊕ Int)) :=
 if decide (p1 < (a0.length:Int)) = true then
  (at? a0 p1).bind fun (x2:Int) =>
  if decide (p1 ≥ (a1.length:Int)) = true then
   some (.inr (.inr (1)))
  else
   (at? a1 p1).bind fun (x3:Int) =>
   (mD x2 x3).bind fun (r4:Int) =>
   if (r4 != 0) = true then
    some (.inr (.inr (r4)))
   else
    some (.inl (IntKind.wrap .i64 (p1 + 1)))
 else
  some (.inr (.inl ()))
def iZ (a0 a1:List Int) (p1:Int):Option (Unit ⊕ Int) :=
 eO (fun (w:Int)=>bL a0 a1 w) p1
def eN (a0 a1:List Int):Option (Int) :=
 (iZ a0 a1 0).bind fun (r6:Unit ⊕ Int)=>Sum.elim (fun z7 =>
 if decide ((a0.length:Int) < (a1.length:Int)) = true then
   some (-1)
  else
   some 0) (fun z8 =>
 some z8) r6
def bD (a0 a1:aA):Option (Bool) :=
 if ((a0.Path.length:Int) != (a1.Path.length:Int)) = true then
  some (decide ((a0.Path.length:Int) < (a1.Path.length:Int)))
 else
  (eN a0.Path a1.Path).bind fun (r1:Int) =>
  if (r1 != 0) = true then
   some (decide (r1 < 0))
  else
   (eN a0.Places a1.Places).bind fun (r2:Int) =>
   some (decide (r2 < 0))
def qB (a1 a2:Int) (r4 r5:(List Int)) (p9:Int) (p10:List Int):Option ((Int × (List Int)) ⊕ ((List Int))) :=
 if decide (p9 < (r4.length:Int)) = true then
  if 0 <= p9 ∧ p9.toNat < p10.length then
   (p10[p9.toNat]?).bind fun (x11:Int) =>
   if 0 <= p9 ∧ p9.toNat < p10.length then
    (p10[p9.toNat]?).bind fun (x12:Int) =>
    some (.inl (IntKind.wrap .i64 (p9 + 1),p10.set p9.toNat (if x11 > 0 then x11 else 0)))
   else none
  else none
 else
  some (.inr (p10))
def oJ (a1 a2:Int) (r4 r5:(List Int)) (p9:Int) (p10:List Int):Option ((List Int)) :=
 eO (fun (w:Int × (List Int))=>qB a1 a2 r4 r5 w.1 w.2) (p9,p10)
def qJ (a0:aB) (a1 a2 p16:Int) (p17 p18:Option aA) (p19 p20:List Int) (r23 r24:(List Int)) (r3:Int × Bool) (x1 x15 p28:Int) (p29:List Int):Option ((Int × (List Int)) ⊕ ((List Int))) :=
 if decide (p28 < (r23.length:Int)) = true then
  if 0 <= p28 ∧ p28.toNat < p29.length then
   (p29[p28.toNat]?).bind fun (x30:Int) =>
   if 0 <= p28 ∧ p28.toNat < p29.length then
    (p29[p28.toNat]?).bind fun (x31:Int) =>
    some (.inl (IntKind.wrap .i64 (p28 + 1),p29.set p28.toNat (if x30 > 0 then x30 else 0)))
   else none
  else none
 else
  some (.inr (p29))
def oY (a0:aB) (a1 a2 p16:Int) (p17 p18:Option aA) (p19 p20:List Int) (r23 r24:(List Int)) (r3:Int × Bool) (x1 x15 p28:Int) (p29:List Int):Option ((List Int)) :=
 eO (fun (w:Int × (List Int))=>qJ a0 a1 a2 p16 p17 p18 p19 p20 r23 r24 r3 x1 x15 w.1 w.2) (p28,p29)
def qE (a0:aB) (a1 a2 p16:Int) (p17 p18:Option aA) (p19 p20:List Int) (r3:Int × Bool) (r40 r41:(List Int)) (x1 x15 p45:Int) (p46:List Int):Option ((Int × (List Int)) ⊕ ((List Int))) :=
 if decide (p45 < (r40.length:Int)) = true then
  if 0 <= p45 ∧ p45.toNat < p46.length then
   (p46[p45.toNat]?).bind fun (x47:Int) =>
   if 0 <= p45 ∧ p45.toNat < p46.length then
    (p46[p45.toNat]?).bind fun (x48:Int) =>
    some (.inl (IntKind.wrap .i64 (p45 + 1),p46.set p45.toNat (if x47 > 0 then x47 else 0)))
   else none
  else none
 else
  some (.inr (p46))
def oO (a0:aB) (a1 a2 p16:Int) (p17 p18:Option aA) (p19 p20:List Int) (r3:Int × Bool) (r40 r41:(List Int)) (x1 x15 p45:Int) (p46:List Int):Option ((List Int)) :=
 eO (fun (w:Int × (List Int))=>qE a0 a1 a2 p16 p17 p18 p19 p20 r3 r40 r41 x1 x15 w.1 w.2) (p45,p46)
def qK (a0:aB) (a1 a2 p16 p54:Int) (p55 p56:Option aA) (p57 p58:List Int) (r3 r39:Int × Bool) (r61 r62:(List Int)) (x1 x15 x37 x53 p66:Int) (p67:List Int):Option ((Int × (List Int)) ⊕ ((List Int))) :=
 if decide (p66 < (r61.length:Int)) = true then
  if 0 <= p66 ∧ p66.toNat < p67.length then
   (p67[p66.toNat]?).bind fun (x68:Int) =>
   if 0 <= p66 ∧ p66.toNat < p67.length then
    (p67[p66.toNat]?).bind fun (x69:Int) =>
    some (.inl (IntKind.wrap .i64 (p66 + 1),p67.set p66.toNat (if x68 > 0 then x68 else 0)))
   else none
  else none
 else
  some (.inr (p67))
def oW (a0:aB) (a1 a2 p16 p54:Int) (p55 p56:Option aA) (p57 p58:List Int) (r3 r39:Int × Bool) (r61 r62:(List Int)) (x1 x15 x37 x53 p66:Int) (p67:List Int):Option ((List Int)) :=
 eO (fun (w:Int × (List Int))=>qK a0 a1 a2 p16 p54 p55 p56 p57 p58 r3 r39 r61 r62 x1 x15 x37 x53 w.1 w.2) (p66,p67)
def pN (a0:aB) (a1 a2 p16 p54:Int) (p55 p56:Option aA) (p57 p58:List Int) (r3 r39:Int × Bool) (r78 r79:(List Int)) (x1 x15 x37 x53 p83:Int) (p84:List Int):Option ((Int × (List Int)) ⊕ ((List Int))) :=
 if decide (p83 < (r78.length:Int)) = true then
  if 0 <= p83 ∧ p83.toNat < p84.length then
   (p84[p83.toNat]?).bind fun (x85:Int) =>
   if 0 <= p83 ∧ p83.toNat < p84.length then
    (p84[p83.toNat]?).bind fun (x86:Int) =>
    some (.inl (IntKind.wrap .i64 (p83 + 1),p84.set p83.toNat (if x85 > 0 then x85 else 0)))
   else none
  else none
 else
  some (.inr (p84))
def oU (a0:aB) (a1 a2 p16 p54:Int) (p55 p56:Option aA) (p57 p58:List Int) (r3 r39:Int × Bool) (r78 r79:(List Int)) (x1 x15 x37 x53 p83:Int) (p84:List Int):Option ((List Int)) :=
 eO (fun (w:Int × (List Int))=>pN a0 a1 a2 p16 p54 p55 p56 p57 p58 r3 r39 r78 r79 x1 x15 x37 x53 w.1 w.2) (p83,p84)
def pW (a0:aB) (a1 a2 p16 p54 p92:Int) (p93 p94:Option aA) (p95 p96:List Int) (r100:(List Int)) (r3 r39 r77:Int × Bool) (r99:(List Int)) (x1 x15 x37 x53 x75 x91 p104:Int) (p105:List Int):Option ((Int × (List Int)) ⊕ ((List Int))) :=
 if decide (p104 < (r99.length:Int)) = true then
  if 0 <= p104 ∧ p104.toNat < p105.length then
   (p105[p104.toNat]?).bind fun (x106:Int) =>
   if 0 <= p104 ∧ p104.toNat < p105.length then
    (p105[p104.toNat]?).bind fun (x107:Int) =>
    some (.inl (IntKind.wrap .i64 (p104 + 1),p105.set p104.toNat (if x106 > 0 then x106 else 0)))
   else none
  else none
 else
  some (.inr (p105))
def oT (a0:aB) (a1 a2 p16 p54 p92:Int) (p93 p94:Option aA) (p95 p96:List Int) (r100:(List Int)) (r3 r39 r77:Int × Bool) (r99:(List Int)) (x1 x15 x37 x53 x75 x91 p104:Int) (p105:List Int):Option ((List Int)) :=
 eO (fun (w:Int × (List Int))=>pW a0 a1 a2 p16 p54 p92 p93 p94 p95 p96 r100 r3 r39 r77 r99 x1 x15 x37 x53 x75 x91 w.1 w.2) (p104,p105)
def pL (a0:aB) (a1 a2:Int) (p117 p118:List Int) (p16 p54 p92:Int) (p93 p94:Option aA) (p95 p96:List Int) (r3 r39 r77:Int × Bool) (x1 x15 x37 x53 x75 x91 p122:Int) (p123:List Int):Option ((Int × (List Int)) ⊕ ((List Int))) :=
 if decide (p122 < (p117.length:Int)) = true then
  if 0 <= p122 ∧ p122.toNat < p123.length then
   (p123[p122.toNat]?).bind fun (x124:Int) =>
   if 0 <= p122 ∧ p122.toNat < p123.length then
    (p123[p122.toNat]?).bind fun (x125:Int) =>
    some (.inl (IntKind.wrap .i64 (p122 + 1),p123.set p122.toNat (if x124 > 0 then x124 else 0)))
   else none
  else none
 else
  some (.inr (p123))
def oF (a0:aB) (a1 a2:Int) (p117 p118:List Int) (p16 p54 p92:Int) (p93 p94:Option aA) (p95 p96:List Int) (r3 r39 r77:Int × Bool) (x1 x15 x37 x53 x75 x91 p122:Int) (p123:List Int):Option ((List Int)) :=
 eO (fun (w:Int × (List Int))=>pL a0 a1 a2 p117 p118 p16 p54 p92 p93 p94 p95 p96 r3 r39 r77 x1 x15 x37 x53 x75 x91 w.1 w.2) (p122,p123)
def sR (a0:aB) (a1 a2:Int) (p117 p118:List Int) (p16 p54 p92:Int) (p93 p94:Option aA) (p95 p96:List Int) (r3 r39 r77:Int × Bool) (x1 x15 x37 x53 x75 x91:Int):Option ((Option aA)) :=
 (oF a0 a1 a2 p117 p118 p16 p54 p92 p93 p94 p95 p96 r3 r39 r77 x1 x15 x37 x53 x75 x91 0 p117).bind fun (r127:(List Int)) =>
 if p94.isNone = true then
  some (some (aA.mk 1 a1 a2 r127 p118))
 else
  (p94).bind fun (x128:aA) =>
  (bD (aA.mk 1 a1 a2 r127 p118) x128).bind fun (r129:Bool) =>
  if r129 = true then
   some (some (aA.mk 1 a1 a2 r127 p118))
  else
   some (p94)
def pP (a0:aB) (a1 a2:Int) (p117 p118:List Int) (p16 p54 p92:Int) (p93 p94:Option aA) (p95 p96:List Int) (r3 r39 r77:Int × Bool) (x1 x15 x37 x53 x75 x91 p132:Int) (p133:List Int):Option ((Int × (List Int)) ⊕ ((List Int))) :=
 if decide (p132 < (p117.length:Int)) = true then
  if 0 <= p132 ∧ p132.toNat < p133.length then
   (p133[p132.toNat]?).bind fun (x134:Int) =>
   if 0 <= p132 ∧ p132.toNat < p133.length then
    (p133[p132.toNat]?).bind fun (x135:Int) =>
    some (.inl (IntKind.wrap .i64 (p132 + 1),p133.set p132.toNat (if x134 > 0 then x134 else 0)))
   else none
  else none
 else
  some (.inr (p133))
def oM (a0:aB) (a1 a2:Int) (p117 p118:List Int) (p16 p54 p92:Int) (p93 p94:Option aA) (p95 p96:List Int) (r3 r39 r77:Int × Bool) (x1 x15 x37 x53 x75 x91 p132:Int) (p133:List Int):Option ((List Int)) :=
 eO (fun (w:Int × (List Int))=>pP a0 a1 a2 p117 p118 p16 p54 p92 p93 p94 p95 p96 r3 r39 r77 x1 x15 x37 x53 x75 x91 w.1 w.2) (p132,p133)
def rX (a0:aB) (a1 a2:Int) (p117 p118:List Int) (p16 p54 p92:Int) (p93 p94:Option aA) (p95 p96:List Int) (r3 r39 r77:Int × Bool) (x1 x15 x37 x53 x75 x91:Int):Option ((Option aA)) :=
 (oM a0 a1 a2 p117 p118 p16 p54 p92 p93 p94 p95 p96 r3 r39 r77 x1 x15 x37 x53 x75 x91 0 p117).bind fun (r137:(List Int)) =>
 if p93.isNone = true then
  some (some (aA.mk 0 a1 a2 r137 p118))
 else
  (p93).bind fun (x138:aA) =>
  (bD (aA.mk 0 a1 a2 r137 p118) x138).bind fun (r139:Bool) =>
  if r139 = true then
   some (some (aA.mk 0 a1 a2 r137 p118))
  else
   some (p93)
def fX (a0:aB) (a1 a2 p16 p54 p92:Int) (p93 p94:Option aA) (p95 p96:List Int) (r3 r39 r77:Int × Bool) (x1 x15 x37 x53 x75 x91:Int) (p116:Bool) (p117 p118:List Int):Option (((Option aA) × (Option aA)) ⊕ Unit) :=
 if p116 = true then
  (sR a0 a1 a2 p117 p118 p16 p54 p92 p93 p94 p95 p96 r3 r39 r77 x1 x15 x37 x53 x75 x91).bind fun (r131:(Option aA)) =>
  some (.inl (p93,r131))
 else
  if 0 <= (IntKind.wrap .i64 (((p96 ++ [p92]).length:Int) - 1)) ∧ (IntKind.wrap .i64 (((p96 ++ [p92]).length:Int) - 1)).toNat < (p96 ++ [p92]).length then
   ((p96 ++ [p92])[(IntKind.wrap .i64 (((p96 ++ [p92]).length:Int) - 1)).toNat]?).bind fun (x119:Int) =>
   (at? a0.Orders x119).bind fun (x120:aC) =>
   (eW x120 a2).bind fun (r121:Bool) =>
   if r121 = true then
    some (.inr (()))
   else
    (rX a0 a1 a2 p117 p118 p16 p54 p92 p93 p94 p95 p96 r3 r39 r77 x1 x15 x37 x53 x75 x91).bind fun (r141:(Option aA)) =>
    some (.inl (r141,p94))
  else none
def lC (a0:aB) (a1 a2 p16 p54 p92:Int) (p93 p94:Option aA) (p95 p96:List Int) (r3 r39 r77:Int × Bool) (x1 x15 x37 x53 x75 x91:Int):Option ((Option aA) × (Option aA)) :=
 if r77.2 = true then
  (at? a0.Orders p92).bind fun (x113:aC) =>
  (aE (p95.set r77.1.toNat p92)).bind fun (r114:(List Int)) =>
  (aE (p96 ++ [p92])).bind fun (r115:(List Int)) =>
  (fX a0 a1 a2 p16 p54 p92 p93 p94 p95 p96 r3 r39 r77 x1 x15 x37 x53 x75 x91 (!(x113.Accepts)) r114 r115).bind fun (r144:((Option aA) × (Option aA)) ⊕ Unit)=>Sum.elim (fun z145 =>
  some ((z145.1,z145.2))) (fun z146 =>
  some ((p93,p94))) r144
 else
  (aE (p95.set r77.1.toNat p92)).bind fun (r147:(List Int)) =>
  (aE (p96 ++ [p92])).bind fun (r148:(List Int)) =>
  (fX a0 a1 a2 p16 p54 p92 p93 p94 p95 p96 r3 r39 r77 x1 x15 x37 x53 x75 x91 false r147 r148).bind fun (r149:((Option aA) × (Option aA)) ⊕ Unit)=>Sum.elim (fun z150 =>
  some ((z150.1,z150.2))) (fun z151 =>
  some ((p93,p94))) r149
def kV (a0:aB) (a1 a2 p16 p54 p92:Int) (p95 p96:List Int) (r3 r39 r77:Int × Bool) (x1 x15 x37 x53 x75 x91:Int) (p156 p157:Option aA):Option (Unit) :=
 if 0 <= (IntKind.wrap .i64 (((p96 ++ [p92]).length:Int) - 1)) ∧ (IntKind.wrap .i64 (((p96 ++ [p92]).length:Int) - 1)).toNat <= (p96 ++ [p92]).length then
  some (())
 else none
def dN (a0:aB) (a1 a2 p16 p54 p92:Int) (p95:List Int) (r3 r39 r77:Int × Bool) (x1 x15 x37 x53 x75 x91:Int) (p160 p161:Option aA) (p162:List Int):Option ((List Int)) :=
 if (x91 == (-1)) = true then
  if 0 <= r77.1 ∧ r77.1.toNat < (p95.set r77.1.toNat p92).length then
   ((p95.set r77.1.toNat p92)[r77.1.toNat]?).bind fun (x163:Int) =>
   some ((p95.set r77.1.toNat p92).set r77.1.toNat (-1))
  else none
 else
  some (p95.set r77.1.toNat p92)
def kX (a0:aB) (a1 a2 p16 p54 p92:Int) (p93 p94:Option aA) (p95 p96:List Int) (r3 r39 r77:Int × Bool) (x1 x15 x37 x53 x75 x91:Int):Option ((Option aA) × (Option aA) × (List Int) × (List Int)) :=
 if 0 <= r77.1 ∧ r77.1.toNat < p95.length then
  (p95[r77.1.toNat]?).bind fun (x98:Int) =>
  if (p92 == x75) = true then
   (aE (p95.set r77.1.toNat p92)).bind fun (r99:(List Int)) =>
   (aE p96).bind fun (r100:(List Int)) =>
   if 0 <= (IntKind.wrap .i64 ((p96.length:Int) - 1)) ∧ (IntKind.wrap .i64 ((p96.length:Int) - 1)).toNat < p96.length then
    (p96[(IntKind.wrap .i64 ((p96.length:Int) - 1)).toNat]?).bind fun (x101:Int) =>
    (at? a0.Orders x101).bind fun (x102:aC) =>
    (eW x102 a2).bind fun (r103:Bool) =>
    if r103 = true then
     (dN a0 a1 a2 p16 p54 p92 p95 r3 r39 r77 x1 x15 x37 x53 x75 x91 p93 p94 p96).bind fun (r165:(List Int)) =>
     some ((p93,p94,r165,p96))
    else
     (oT a0 a1 a2 p16 p54 p92 p93 p94 p95 p96 r100 r3 r39 r77 r99 x1 x15 x37 x53 x75 x91 0 r99).bind fun (r109:(List Int)) =>
     if p93.isNone = true then
      (dN a0 a1 a2 p16 p54 p92 p95 r3 r39 r77 x1 x15 x37 x53 x75 x91 (some (aA.mk 0 a1 a2 r109 r100)) p94 p96).bind fun (r166:(List Int)) =>
      some (((some (aA.mk 0 a1 a2 r109 r100)),p94,r166,p96))
     else
      (p93).bind fun (x110:aA) =>
      (bD (aA.mk 0 a1 a2 r109 r100) x110).bind fun (r111:Bool) =>
      if r111 = true then
       (dN a0 a1 a2 p16 p54 p92 p95 r3 r39 r77 x1 x15 x37 x53 x75 x91 (some (aA.mk 0 a1 a2 r109 r100)) p94 p96).bind fun (r167:(List Int)) =>
       some (((some (aA.mk 0 a1 a2 r109 r100)),p94,r167,p96))
      else
       (dN a0 a1 a2 p16 p54 p92 p95 r3 r39 r77 x1 x15 x37 x53 x75 x91 p93 p94 p96).bind fun (r168:(List Int)) =>
       some ((p93,p94,r168,p96))
   else none
  else
   (b6 p96 p92).bind fun (r112:Bool) =>
   if (p96.length + 1) * 8 <= 140737488355328 then
    if r77.2 = true then
     if (!(r112)) = true then
      none
     else
      (lC a0 a1 a2 p16 p54 p92 p93 p94 p95 p96 r3 r39 r77 x1 x15 x37 x53 x75 x91).bind fun (r154:(Option aA) × (Option aA)) =>
      (kV a0 a1 a2 p16 p54 p92 p95 p96 r3 r39 r77 x1 x15 x37 x53 x75 x91 r154.1 r154.2).bind fun (r158:Unit) =>
      (dN a0 a1 a2 p16 p54 p92 p95 r3 r39 r77 x1 x15 x37 x53 x75 x91 r154.1 r154.2 ((p96 ++ [p92]).take ((IntKind.wrap .i64 (((p96 ++ [p92]).length:Int) - 1)).toNat))).bind fun (r169:(List Int)) =>
      some ((r154.1,r154.2,r169,((p96 ++ [p92]).take ((IntKind.wrap .i64 (((p96 ++ [p92]).length:Int) - 1)).toNat))))
    else
     (lC a0 a1 a2 p16 p54 p92 p93 p94 p95 p96 r3 r39 r77 x1 x15 x37 x53 x75 x91).bind fun (r155:(Option aA) × (Option aA)) =>
     (kV a0 a1 a2 p16 p54 p92 p95 p96 r3 r39 r77 x1 x15 x37 x53 x75 x91 r155.1 r155.2).bind fun (r159:Unit) =>
     (dN a0 a1 a2 p16 p54 p92 p95 r3 r39 r77 x1 x15 x37 x53 x75 x91 r155.1 r155.2 ((p96 ++ [p92]).take ((IntKind.wrap .i64 (((p96 ++ [p92]).length:Int) - 1)).toNat))).bind fun (r170:(List Int)) =>
     some ((r155.1,r155.2,r170,((p96 ++ [p92]).take ((IntKind.wrap .i64 (((p96 ++ [p92]).length:Int) - 1)).toNat))))
   else none
 else none
def gV (a0:aB) (a1 a2 p16 p54:Int) (r3 r39 r77:Int × Bool) (x1 x15 x37 x53 x75 x91 p92:Int) (p93 p94:Option aA) (p95 p96:List Int):Option ((Int × (Option aA) × (Option aA) × (List Int) × (List Int)) ⊕ ((Option aA) × (Option aA) × (List Int) × (List Int))) :=
 if decide (p92 < (a0.Orders.length:Int)) = true then
  if (!(x91 == (-1))) = true then
   if 0 <= r77.1 ∧ r77.1.toNat < p95.length then
    (p95[r77.1.toNat]?).bind fun (x97:Int) =>
    if (x97 != p92) = true then
     some (.inl (IntKind.wrap .i64 (p92 + 1),p93,p94,p95,p96))
    else
     (kX a0 a1 a2 p16 p54 p92 p93 p94 p95 p96 r3 r39 r77 x1 x15 x37 x53 x75 x91).bind fun (r175:(Option aA) × (Option aA) × (List Int) × (List Int)) =>
     some (.inl (IntKind.wrap .i64 (p92 + 1),r175.1,r175.2.1,r175.2.2.1,r175.2.2.2))
   else none
  else
   (kX a0 a1 a2 p16 p54 p92 p93 p94 p95 p96 r3 r39 r77 x1 x15 x37 x53 x75 x91).bind fun (r176:(Option aA) × (Option aA) × (List Int) × (List Int)) =>
   some (.inl (IntKind.wrap .i64 (p92 + 1),r176.1,r176.2.1,r176.2.2.1,r176.2.2.2))
 else
  some (.inr ((p93,p94,p95,p96)))
def rT (a0:aB) (a1 a2 p16 p54:Int) (r3 r39 r77:Int × Bool) (x1 x15 x37 x53 x75 x91 p92:Int) (p93 p94:Option aA) (p95 p96:List Int):Option ((Option aA) × (Option aA) × (List Int) × (List Int)) :=
 eO (fun (w:Int × (Option aA) × (Option aA) × (List Int) × (List Int))=>gV a0 a1 a2 p16 p54 r3 r39 r77 x1 x15 x37 x53 x75 x91 w.1 w.2.1 w.2.2.1 w.2.2.2.1 w.2.2.2.2) (p92,p93,p94,p95,p96)
def mZ (a0:aB) (a1 a2 p16 p54:Int) (p55 p56:Option aA) (p57 p58:List Int) (r3 r39:Int × Bool) (x1 x15 x37 x53:Int):Option ((Option aA) × (Option aA) × (List Int) × (List Int)) :=
 if 0 <= (IntKind.wrap .i64 (((p58 ++ [p54]).length:Int) - 1)) ∧ (IntKind.wrap .i64 (((p58 ++ [p54]).length:Int) - 1)).toNat < (p58 ++ [p54]).length then
  ((p58 ++ [p54])[(IntKind.wrap .i64 (((p58 ++ [p54]).length:Int) - 1)).toNat]?).bind fun (x75:Int) =>
  (at? a0.Orders x75).bind fun (x76:aC) =>
  (mA x76 a2).bind fun (r77:Int × Bool) =>
  if (r77.1 == 0) = true then
   (aE (p57.set r39.1.toNat p54)).bind fun (r78:(List Int)) =>
   (aE (p58 ++ [p54])).bind fun (r79:(List Int)) =>
   if 0 <= (IntKind.wrap .i64 (((p58 ++ [p54]).length:Int) - 1)) ∧ (IntKind.wrap .i64 (((p58 ++ [p54]).length:Int) - 1)).toNat < (p58 ++ [p54]).length then
    ((p58 ++ [p54])[(IntKind.wrap .i64 (((p58 ++ [p54]).length:Int) - 1)).toNat]?).bind fun (x80:Int) =>
    (at? a0.Orders x80).bind fun (x81:aC) =>
    (eW x81 a2).bind fun (r82:Bool) =>
    if r82 = true then
     some ((p55,p56,p57.set r39.1.toNat p54,p58 ++ [p54]))
    else
     (oU a0 a1 a2 p16 p54 p55 p56 p57 p58 r3 r39 r78 r79 x1 x15 x37 x53 0 r78).bind fun (r88:(List Int)) =>
     if p55.isNone = true then
      some ((some (aA.mk 0 a1 a2 r88 r79),p56,p57.set r39.1.toNat p54,p58 ++ [p54]))
     else
      (p55).bind fun (x89:aA) =>
      (bD (aA.mk 0 a1 a2 r88 r79) x89).bind fun (r90:Bool) =>
      if r90 = true then
       some ((some (aA.mk 0 a1 a2 r88 r79),p56,p57.set r39.1.toNat p54,p58 ++ [p54]))
      else
       some ((p55,p56,p57.set r39.1.toNat p54,p58 ++ [p54]))
   else none
  else
   if 0 <= r77.1 ∧ r77.1.toNat < (p57.set r39.1.toNat p54).length then
    ((p57.set r39.1.toNat p54)[r77.1.toNat]?).bind fun (x91:Int) =>
    (rT a0 a1 a2 p16 p54 r3 r39 r77 x1 x15 x37 x53 x75 x91 0 p55 p56 (p57.set r39.1.toNat p54) (p58 ++ [p54])).bind fun (r181:(Option aA) × (Option aA) × (List Int) × (List Int)) =>
    some ((r181.1,r181.2.1,r181.2.2.1,r181.2.2.2))
   else none
 else none
def nV (a0:aB) (a1 a2 p16:Int) (p191 p192:List Int) (p54:Int) (p55 p56:Option aA) (p57 p58:List Int) (r3 r39:Int × Bool) (x1 x15 x37 x53 p196:Int) (p197:List Int):Option ((Int × (List Int)) ⊕ ((List Int))) :=
 if decide (p196 < (p191.length:Int)) = true then
  if 0 <= p196 ∧ p196.toNat < p197.length then
   (p197[p196.toNat]?).bind fun (x198:Int) =>
   if 0 <= p196 ∧ p196.toNat < p197.length then
    (p197[p196.toNat]?).bind fun (x199:Int) =>
    some (.inl (IntKind.wrap .i64 (p196 + 1),p197.set p196.toNat (if x198 > 0 then x198 else 0)))
   else none
  else none
 else
  some (.inr (p197))
def mX (a0:aB) (a1 a2 p16:Int) (p191 p192:List Int) (p54:Int) (p55 p56:Option aA) (p57 p58:List Int) (r3 r39:Int × Bool) (x1 x15 x37 x53 p196:Int) (p197:List Int):Option ((List Int)) :=
 eO (fun (w:Int × (List Int))=>nV a0 a1 a2 p16 p191 p192 p54 p55 p56 p57 p58 r3 r39 x1 x15 x37 x53 w.1 w.2) (p196,p197)
def rO (a0:aB) (a1 a2 p16:Int) (p191 p192:List Int) (p54:Int) (p55 p56:Option aA) (p57 p58:List Int) (r3 r39:Int × Bool) (x1 x15 x37 x53:Int):Option ((Option aA)) :=
 (mX a0 a1 a2 p16 p191 p192 p54 p55 p56 p57 p58 r3 r39 x1 x15 x37 x53 0 p191).bind fun (r201:(List Int)) =>
 if p56.isNone = true then
  some (some (aA.mk 1 a1 a2 r201 p192))
 else
  (p56).bind fun (x202:aA) =>
  (bD (aA.mk 1 a1 a2 r201 p192) x202).bind fun (r203:Bool) =>
  if r203 = true then
   some (some (aA.mk 1 a1 a2 r201 p192))
  else
   some (p56)
def n0 (a0:aB) (a1 a2 p16:Int) (p191 p192:List Int) (p54:Int) (p55 p56:Option aA) (p57 p58:List Int) (r3 r39:Int × Bool) (x1 x15 x37 x53 p206:Int) (p207:List Int):Option ((Int × (List Int)) ⊕ ((List Int))) :=
 if decide (p206 < (p191.length:Int)) = true then
  if 0 <= p206 ∧ p206.toNat < p207.length then
   (p207[p206.toNat]?).bind fun (x208:Int) =>
   if 0 <= p206 ∧ p206.toNat < p207.length then
    (p207[p206.toNat]?).bind fun (x209:Int) =>
    some (.inl (IntKind.wrap .i64 (p206 + 1),p207.set p206.toNat (if x208 > 0 then x208 else 0)))
   else none
  else none
 else
  some (.inr (p207))
def m4 (a0:aB) (a1 a2 p16:Int) (p191 p192:List Int) (p54:Int) (p55 p56:Option aA) (p57 p58:List Int) (r3 r39:Int × Bool) (x1 x15 x37 x53 p206:Int) (p207:List Int):Option ((List Int)) :=
 eO (fun (w:Int × (List Int))=>n0 a0 a1 a2 p16 p191 p192 p54 p55 p56 p57 p58 r3 r39 x1 x15 x37 x53 w.1 w.2) (p206,p207)
def rI (a0:aB) (a1 a2 p16:Int) (p191 p192:List Int) (p54:Int) (p55 p56:Option aA) (p57 p58:List Int) (r3 r39:Int × Bool) (x1 x15 x37 x53:Int):Option ((Option aA)) :=
 (m4 a0 a1 a2 p16 p191 p192 p54 p55 p56 p57 p58 r3 r39 x1 x15 x37 x53 0 p191).bind fun (r211:(List Int)) =>
 if p55.isNone = true then
  some (some (aA.mk 0 a1 a2 r211 p192))
 else
  (p55).bind fun (x212:aA) =>
  (bD (aA.mk 0 a1 a2 r211 p192) x212).bind fun (r213:Bool) =>
  if r213 = true then
   some (some (aA.mk 0 a1 a2 r211 p192))
  else
   some (p55)
def f9 (a0:aB) (a1 a2 p16 p54:Int) (p55 p56:Option aA) (p57 p58:List Int) (r3 r39:Int × Bool) (x1 x15 x37 x53:Int) (p190:Bool) (p191 p192:List Int):Option (((Option aA) × (Option aA)) ⊕ Unit) :=
 if p190 = true then
  (rO a0 a1 a2 p16 p191 p192 p54 p55 p56 p57 p58 r3 r39 x1 x15 x37 x53).bind fun (r205:(Option aA)) =>
  some (.inl (p55,r205))
 else
  if 0 <= (IntKind.wrap .i64 (((p58 ++ [p54]).length:Int) - 1)) ∧ (IntKind.wrap .i64 (((p58 ++ [p54]).length:Int) - 1)).toNat < (p58 ++ [p54]).length then
   ((p58 ++ [p54])[(IntKind.wrap .i64 (((p58 ++ [p54]).length:Int) - 1)).toNat]?).bind fun (x193:Int) =>
   (at? a0.Orders x193).bind fun (x194:aC) =>
   (eW x194 a2).bind fun (r195:Bool) =>
   if r195 = true then
    some (.inr (()))
   else
    (rI a0 a1 a2 p16 p191 p192 p54 p55 p56 p57 p58 r3 r39 x1 x15 x37 x53).bind fun (r215:(Option aA)) =>
    some (.inl (r215,p56))
  else none
def kU (a0:aB) (a1 a2 p16 p54:Int) (p55 p56:Option aA) (p57 p58:List Int) (r3 r39:Int × Bool) (x1 x15 x37 x53:Int):Option ((Option aA) × (Option aA)) :=
 if r39.2 = true then
  (at? a0.Orders p54).bind fun (x187:aC) =>
  (aE (p57.set r39.1.toNat p54)).bind fun (r188:(List Int)) =>
  (aE (p58 ++ [p54])).bind fun (r189:(List Int)) =>
  (f9 a0 a1 a2 p16 p54 p55 p56 p57 p58 r3 r39 x1 x15 x37 x53 (!(x187.Accepts)) r188 r189).bind fun (r218:((Option aA) × (Option aA)) ⊕ Unit)=>Sum.elim (fun z219 =>
  some ((z219.1,z219.2))) (fun z220 =>
  some ((p55,p56))) r218
 else
  (aE (p57.set r39.1.toNat p54)).bind fun (r221:(List Int)) =>
  (aE (p58 ++ [p54])).bind fun (r222:(List Int)) =>
  (f9 a0 a1 a2 p16 p54 p55 p56 p57 p58 r3 r39 x1 x15 x37 x53 false r221 r222).bind fun (r223:((Option aA) × (Option aA)) ⊕ Unit)=>Sum.elim (fun z224 =>
  some ((z224.1,z224.2))) (fun z225 =>
  some ((p55,p56))) r223
def jJ (a0:aB) (a1 a2 p16 p54:Int) (r3 r39:Int × Bool) (x1 x15 x37 x53:Int) (p230 p231:Option aA) (p232 p233:List Int):Option (Unit) :=
 if 0 <= (IntKind.wrap .i64 ((p233.length:Int) - 1)) ∧ (IntKind.wrap .i64 ((p233.length:Int) - 1)).toNat <= p233.length then
  some (())
 else none
def c9 (a0:aB) (a1 a2 p16 p54:Int) (r3 r39:Int × Bool) (x1 x15 x37 x53:Int) (p237 p238:Option aA) (p239 p240:List Int):Option ((List Int)) :=
 if (x53 == (-1)) = true then
  if 0 <= r39.1 ∧ r39.1.toNat < p239.length then
   (p239[r39.1.toNat]?).bind fun (x241:Int) =>
   some (p239.set r39.1.toNat (-1))
  else none
 else
  some (p239)
def kY (a0:aB) (a1 a2 p16 p54:Int) (p55 p56:Option aA) (p57 p58:List Int) (r3 r39:Int × Bool) (x1 x15 x37 x53:Int):Option ((Option aA) × (Option aA) × (List Int) × (List Int)) :=
 if 0 <= r39.1 ∧ r39.1.toNat < p57.length then
  (p57[r39.1.toNat]?).bind fun (x60:Int) =>
  if (p54 == x37) = true then
   (aE (p57.set r39.1.toNat p54)).bind fun (r61:(List Int)) =>
   (aE p58).bind fun (r62:(List Int)) =>
   if 0 <= (IntKind.wrap .i64 ((p58.length:Int) - 1)) ∧ (IntKind.wrap .i64 ((p58.length:Int) - 1)).toNat < p58.length then
    (p58[(IntKind.wrap .i64 ((p58.length:Int) - 1)).toNat]?).bind fun (x63:Int) =>
    (at? a0.Orders x63).bind fun (x64:aC) =>
    (eW x64 a2).bind fun (r65:Bool) =>
    if r65 = true then
     (c9 a0 a1 a2 p16 p54 r3 r39 x1 x15 x37 x53 p55 p56 (p57.set r39.1.toNat p54) p58).bind fun (r243:(List Int)) =>
     some ((p55,p56,r243,p58))
    else
     (oW a0 a1 a2 p16 p54 p55 p56 p57 p58 r3 r39 r61 r62 x1 x15 x37 x53 0 r61).bind fun (r71:(List Int)) =>
     if p55.isNone = true then
      (c9 a0 a1 a2 p16 p54 r3 r39 x1 x15 x37 x53 (some (aA.mk 0 a1 a2 r71 r62)) p56 (p57.set r39.1.toNat p54) p58).bind fun (r244:(List Int)) =>
      some (((some (aA.mk 0 a1 a2 r71 r62)),p56,r244,p58))
     else
      (p55).bind fun (x72:aA) =>
      (bD (aA.mk 0 a1 a2 r71 r62) x72).bind fun (r73:Bool) =>
      if r73 = true then
       (c9 a0 a1 a2 p16 p54 r3 r39 x1 x15 x37 x53 (some (aA.mk 0 a1 a2 r71 r62)) p56 (p57.set r39.1.toNat p54) p58).bind fun (r245:(List Int)) =>
       some (((some (aA.mk 0 a1 a2 r71 r62)),p56,r245,p58))
      else
       (c9 a0 a1 a2 p16 p54 r3 r39 x1 x15 x37 x53 p55 p56 (p57.set r39.1.toNat p54) p58).bind fun (r246:(List Int)) =>
       some ((p55,p56,r246,p58))
   else none
  else
   (b6 p58 p54).bind fun (r74:Bool) =>
   if (p58.length + 1) * 8 <= 140737488355328 then
    if r39.2 = true then
     if (!(r74)) = true then
      (mZ a0 a1 a2 p16 p54 p55 p56 p57 p58 r3 r39 x1 x15 x37 x53).bind fun (r186:(Option aA) × (Option aA) × (List Int) × (List Int)) =>
      (jJ a0 a1 a2 p16 p54 r3 r39 x1 x15 x37 x53 r186.1 r186.2.1 r186.2.2.1 r186.2.2.2).bind fun (r234:Unit) =>
      (c9 a0 a1 a2 p16 p54 r3 r39 x1 x15 x37 x53 r186.1 r186.2.1 r186.2.2.1 (r186.2.2.2.take ((IntKind.wrap .i64 ((r186.2.2.2.length:Int) - 1)).toNat))).bind fun (r247:(List Int)) =>
      some ((r186.1,r186.2.1,r247,(r186.2.2.2.take ((IntKind.wrap .i64 ((r186.2.2.2.length:Int) - 1)).toNat))))
     else
      (kU a0 a1 a2 p16 p54 p55 p56 p57 p58 r3 r39 x1 x15 x37 x53).bind fun (r228:(Option aA) × (Option aA)) =>
      (jJ a0 a1 a2 p16 p54 r3 r39 x1 x15 x37 x53 r228.1 r228.2 (p57.set r39.1.toNat p54) (p58 ++ [p54])).bind fun (r235:Unit) =>
      (c9 a0 a1 a2 p16 p54 r3 r39 x1 x15 x37 x53 r228.1 r228.2 (p57.set r39.1.toNat p54) ((p58 ++ [p54]).take ((IntKind.wrap .i64 (((p58 ++ [p54]).length:Int) - 1)).toNat))).bind fun (r248:(List Int)) =>
      some ((r228.1,r228.2,r248,((p58 ++ [p54]).take ((IntKind.wrap .i64 (((p58 ++ [p54]).length:Int) - 1)).toNat))))
    else
     (kU a0 a1 a2 p16 p54 p55 p56 p57 p58 r3 r39 x1 x15 x37 x53).bind fun (r229:(Option aA) × (Option aA)) =>
     (jJ a0 a1 a2 p16 p54 r3 r39 x1 x15 x37 x53 r229.1 r229.2 (p57.set r39.1.toNat p54) (p58 ++ [p54])).bind fun (r236:Unit) =>
     (c9 a0 a1 a2 p16 p54 r3 r39 x1 x15 x37 x53 r229.1 r229.2 (p57.set r39.1.toNat p54) ((p58 ++ [p54]).take ((IntKind.wrap .i64 (((p58 ++ [p54]).length:Int) - 1)).toNat))).bind fun (r249:(List Int)) =>
     some ((r229.1,r229.2,r249,((p58 ++ [p54]).take ((IntKind.wrap .i64 (((p58 ++ [p54]).length:Int) - 1)).toNat))))
   else none
 else none
def gQ (a0:aB) (a1 a2 p16:Int) (r3 r39:Int × Bool) (x1 x15 x37 x53 p54:Int) (p55 p56:Option aA) (p57 p58:List Int):Option ((Int × (Option aA) × (Option aA) × (List Int) × (List Int)) ⊕ ((Option aA) × (Option aA) × (List Int) × (List Int))) :=
 if decide (p54 < (a0.Orders.length:Int)) = true then
  if (!(x53 == (-1))) = true then
   if 0 <= r39.1 ∧ r39.1.toNat < p57.length then
    (p57[r39.1.toNat]?).bind fun (x59:Int) =>
    if (x59 != p54) = true then
     some (.inl (IntKind.wrap .i64 (p54 + 1),p55,p56,p57,p58))
    else
     (kY a0 a1 a2 p16 p54 p55 p56 p57 p58 r3 r39 x1 x15 x37 x53).bind fun (r254:(Option aA) × (Option aA) × (List Int) × (List Int)) =>
     some (.inl (IntKind.wrap .i64 (p54 + 1),r254.1,r254.2.1,r254.2.2.1,r254.2.2.2))
   else none
  else
   (kY a0 a1 a2 p16 p54 p55 p56 p57 p58 r3 r39 x1 x15 x37 x53).bind fun (r255:(Option aA) × (Option aA) × (List Int) × (List Int)) =>
   some (.inl (IntKind.wrap .i64 (p54 + 1),r255.1,r255.2.1,r255.2.2.1,r255.2.2.2))
 else
  some (.inr ((p55,p56,p57,p58)))
def rQ (a0:aB) (a1 a2 p16:Int) (r3 r39:Int × Bool) (x1 x15 x37 x53 p54:Int) (p55 p56:Option aA) (p57 p58:List Int):Option ((Option aA) × (Option aA) × (List Int) × (List Int)) :=
 eO (fun (w:Int × (Option aA) × (Option aA) × (List Int) × (List Int))=>gQ a0 a1 a2 p16 r3 r39 x1 x15 x37 x53 w.1 w.2.1 w.2.2.1 w.2.2.2.1 w.2.2.2.2) (p54,p55,p56,p57,p58)
def m3 (a0:aB) (a1 a2 p16:Int) (p17 p18:Option aA) (p19 p20:List Int) (r3:Int × Bool) (x1 x15:Int):Option ((Option aA) × (Option aA) × (List Int) × (List Int)) :=
 if 0 <= (IntKind.wrap .i64 (((p20 ++ [p16]).length:Int) - 1)) ∧ (IntKind.wrap .i64 (((p20 ++ [p16]).length:Int) - 1)).toNat < (p20 ++ [p16]).length then
  ((p20 ++ [p16])[(IntKind.wrap .i64 (((p20 ++ [p16]).length:Int) - 1)).toNat]?).bind fun (x37:Int) =>
  (at? a0.Orders x37).bind fun (x38:aC) =>
  (mA x38 a2).bind fun (r39:Int × Bool) =>
  if (r39.1 == 0) = true then
   (aE (p19.set r3.1.toNat p16)).bind fun (r40:(List Int)) =>
   (aE (p20 ++ [p16])).bind fun (r41:(List Int)) =>
   if 0 <= (IntKind.wrap .i64 (((p20 ++ [p16]).length:Int) - 1)) ∧ (IntKind.wrap .i64 (((p20 ++ [p16]).length:Int) - 1)).toNat < (p20 ++ [p16]).length then
    ((p20 ++ [p16])[(IntKind.wrap .i64 (((p20 ++ [p16]).length:Int) - 1)).toNat]?).bind fun (x42:Int) =>
    (at? a0.Orders x42).bind fun (x43:aC) =>
    (eW x43 a2).bind fun (r44:Bool) =>
    if r44 = true then
     some ((p17,p18,p19.set r3.1.toNat p16,p20 ++ [p16]))
    else
     (oO a0 a1 a2 p16 p17 p18 p19 p20 r3 r40 r41 x1 x15 0 r40).bind fun (r50:(List Int)) =>
     if p17.isNone = true then
      some ((some (aA.mk 0 a1 a2 r50 r41),p18,p19.set r3.1.toNat p16,p20 ++ [p16]))
     else
      (p17).bind fun (x51:aA) =>
      (bD (aA.mk 0 a1 a2 r50 r41) x51).bind fun (r52:Bool) =>
      if r52 = true then
       some ((some (aA.mk 0 a1 a2 r50 r41),p18,p19.set r3.1.toNat p16,p20 ++ [p16]))
      else
       some ((p17,p18,p19.set r3.1.toNat p16,p20 ++ [p16]))
   else none
  else
   if 0 <= r39.1 ∧ r39.1.toNat < (p19.set r3.1.toNat p16).length then
    ((p19.set r3.1.toNat p16)[r39.1.toNat]?).bind fun (x53:Int) =>
    (rQ a0 a1 a2 p16 r3 r39 x1 x15 x37 x53 0 p17 p18 (p19.set r3.1.toNat p16) (p20 ++ [p16])).bind fun (r260:(Option aA) × (Option aA) × (List Int) × (List Int)) =>
    some ((r260.1,r260.2.1,r260.2.2.1,r260.2.2.2))
   else none
 else none
def nU (a0:aB) (a1 a2 p16:Int) (p17 p18:Option aA) (p19 p20 p270 p271:List Int) (r3:Int × Bool) (x1 x15 p275:Int) (p276:List Int):Option ((Int × (List Int)) ⊕ ((List Int))) :=
 if decide (p275 < (p270.length:Int)) = true then
  if 0 <= p275 ∧ p275.toNat < p276.length then
   (p276[p275.toNat]?).bind fun (x277:Int) =>
   if 0 <= p275 ∧ p275.toNat < p276.length then
    (p276[p275.toNat]?).bind fun (x278:Int) =>
    some (.inl (IntKind.wrap .i64 (p275 + 1),p276.set p275.toNat (if x277 > 0 then x277 else 0)))
   else none
  else none
 else
  some (.inr (p276))
def m9 (a0:aB) (a1 a2 p16:Int) (p17 p18:Option aA) (p19 p20 p270 p271:List Int) (r3:Int × Bool) (x1 x15 p275:Int) (p276:List Int):Option ((List Int)) :=
 eO (fun (w:Int × (List Int))=>nU a0 a1 a2 p16 p17 p18 p19 p20 p270 p271 r3 x1 x15 w.1 w.2) (p275,p276)
def rW (a0:aB) (a1 a2 p16:Int) (p17 p18:Option aA) (p19 p20 p270 p271:List Int) (r3:Int × Bool) (x1 x15:Int):Option ((Option aA)) :=
 (m9 a0 a1 a2 p16 p17 p18 p19 p20 p270 p271 r3 x1 x15 0 p270).bind fun (r280:(List Int)) =>
 if p18.isNone = true then
  some (some (aA.mk 1 a1 a2 r280 p271))
 else
  (p18).bind fun (x281:aA) =>
  (bD (aA.mk 1 a1 a2 r280 p271) x281).bind fun (r282:Bool) =>
  if r282 = true then
   some (some (aA.mk 1 a1 a2 r280 p271))
  else
   some (p18)
def n9 (a0:aB) (a1 a2 p16:Int) (p17 p18:Option aA) (p19 p20 p270 p271:List Int) (r3:Int × Bool) (x1 x15 p285:Int) (p286:List Int):Option ((Int × (List Int)) ⊕ ((List Int))) :=
 if decide (p285 < (p270.length:Int)) = true then
  if 0 <= p285 ∧ p285.toNat < p286.length then
   (p286[p285.toNat]?).bind fun (x287:Int) =>
   if 0 <= p285 ∧ p285.toNat < p286.length then
    (p286[p285.toNat]?).bind fun (x288:Int) =>
    some (.inl (IntKind.wrap .i64 (p285 + 1),p286.set p285.toNat (if x287 > 0 then x287 else 0)))
   else none
  else none
 else
  some (.inr (p286))
def m0 (a0:aB) (a1 a2 p16:Int) (p17 p18:Option aA) (p19 p20 p270 p271:List Int) (r3:Int × Bool) (x1 x15 p285:Int) (p286:List Int):Option ((List Int)) :=
 eO (fun (w:Int × (List Int))=>n9 a0 a1 a2 p16 p17 p18 p19 p20 p270 p271 r3 x1 x15 w.1 w.2) (p285,p286)
def rR (a0:aB) (a1 a2 p16:Int) (p17 p18:Option aA) (p19 p20 p270 p271:List Int) (r3:Int × Bool) (x1 x15:Int):Option ((Option aA)) :=
 (m0 a0 a1 a2 p16 p17 p18 p19 p20 p270 p271 r3 x1 x15 0 p270).bind fun (r290:(List Int)) =>
 if p17.isNone = true then
  some (some (aA.mk 0 a1 a2 r290 p271))
 else
  (p17).bind fun (x291:aA) =>
  (bD (aA.mk 0 a1 a2 r290 p271) x291).bind fun (r292:Bool) =>
  if r292 = true then
   some (some (aA.mk 0 a1 a2 r290 p271))
  else
   some (p17)
def fY (a0:aB) (a1 a2 p16:Int) (p17 p18:Option aA) (p19 p20:List Int) (r3:Int × Bool) (x1 x15:Int) (p269:Bool) (p270 p271:List Int):Option (((Option aA) × (Option aA)) ⊕ Unit) :=
 if p269 = true then
  (rW a0 a1 a2 p16 p17 p18 p19 p20 p270 p271 r3 x1 x15).bind fun (r284:(Option aA)) =>
  some (.inl (p17,r284))
 else
  if 0 <= (IntKind.wrap .i64 (((p20 ++ [p16]).length:Int) - 1)) ∧ (IntKind.wrap .i64 (((p20 ++ [p16]).length:Int) - 1)).toNat < (p20 ++ [p16]).length then
   ((p20 ++ [p16])[(IntKind.wrap .i64 (((p20 ++ [p16]).length:Int) - 1)).toNat]?).bind fun (x272:Int) =>
   (at? a0.Orders x272).bind fun (x273:aC) =>
   (eW x273 a2).bind fun (r274:Bool) =>
   if r274 = true then
    some (.inr (()))
   else
    (rR a0 a1 a2 p16 p17 p18 p19 p20 p270 p271 r3 x1 x15).bind fun (r294:(Option aA)) =>
    some (.inl (r294,p18))
  else none
def kZ (a0:aB) (a1 a2 p16:Int) (p17 p18:Option aA) (p19 p20:List Int) (r3:Int × Bool) (x1 x15:Int):Option ((Option aA) × (Option aA)) :=
 if r3.2 = true then
  (at? a0.Orders p16).bind fun (x266:aC) =>
  (aE (p19.set r3.1.toNat p16)).bind fun (r267:(List Int)) =>
  (aE (p20 ++ [p16])).bind fun (r268:(List Int)) =>
  (fY a0 a1 a2 p16 p17 p18 p19 p20 r3 x1 x15 (!(x266.Accepts)) r267 r268).bind fun (r297:((Option aA) × (Option aA)) ⊕ Unit)=>Sum.elim (fun z298 =>
  some ((z298.1,z298.2))) (fun z299 =>
  some ((p17,p18))) r297
 else
  (aE (p19.set r3.1.toNat p16)).bind fun (r300:(List Int)) =>
  (aE (p20 ++ [p16])).bind fun (r301:(List Int)) =>
  (fY a0 a1 a2 p16 p17 p18 p19 p20 r3 x1 x15 false r300 r301).bind fun (r302:((Option aA) × (Option aA)) ⊕ Unit)=>Sum.elim (fun z303 =>
  some ((z303.1,z303.2))) (fun z304 =>
  some ((p17,p18))) r302
def jA (a0:aB) (a1 a2 p16:Int) (r3:Int × Bool) (x1 x15:Int) (p309 p310:Option aA) (p311 p312:List Int):Option (Unit) :=
 if 0 <= (IntKind.wrap .i64 ((p312.length:Int) - 1)) ∧ (IntKind.wrap .i64 ((p312.length:Int) - 1)).toNat <= p312.length then
  some (())
 else none
def cY (a0:aB) (a1 a2 p16:Int) (r3:Int × Bool) (x1 x15:Int) (p316 p317:Option aA) (p318 p319:List Int):Option ((List Int)) :=
 if (x15 == (-1)) = true then
  if 0 <= r3.1 ∧ r3.1.toNat < p318.length then
   (p318[r3.1.toNat]?).bind fun (x320:Int) =>
   some (p318.set r3.1.toNat (-1))
  else none
 else
  some (p318)
def kW (a0:aB) (a1 a2 p16:Int) (p17 p18:Option aA) (p19 p20:List Int) (r3:Int × Bool) (x1 x15:Int):Option ((Option aA) × (Option aA) × (List Int) × (List Int)) :=
 if 0 <= r3.1 ∧ r3.1.toNat < p19.length then
  (p19[r3.1.toNat]?).bind fun (x22:Int) =>
  if (p16 == x1) = true then
   (aE (p19.set r3.1.toNat p16)).bind fun (r23:(List Int)) =>
   (aE p20).bind fun (r24:(List Int)) =>
   if 0 <= (IntKind.wrap .i64 ((p20.length:Int) - 1)) ∧ (IntKind.wrap .i64 ((p20.length:Int) - 1)).toNat < p20.length then
    (p20[(IntKind.wrap .i64 ((p20.length:Int) - 1)).toNat]?).bind fun (x25:Int) =>
    (at? a0.Orders x25).bind fun (x26:aC) =>
    (eW x26 a2).bind fun (r27:Bool) =>
    if r27 = true then
     (cY a0 a1 a2 p16 r3 x1 x15 p17 p18 (p19.set r3.1.toNat p16) p20).bind fun (r322:(List Int)) =>
     some ((p17,p18,r322,p20))
    else
     (oY a0 a1 a2 p16 p17 p18 p19 p20 r23 r24 r3 x1 x15 0 r23).bind fun (r33:(List Int)) =>
     if p17.isNone = true then
      (cY a0 a1 a2 p16 r3 x1 x15 (some (aA.mk 0 a1 a2 r33 r24)) p18 (p19.set r3.1.toNat p16) p20).bind fun (r323:(List Int)) =>
      some (((some (aA.mk 0 a1 a2 r33 r24)),p18,r323,p20))
     else
      (p17).bind fun (x34:aA) =>
      (bD (aA.mk 0 a1 a2 r33 r24) x34).bind fun (r35:Bool) =>
      if r35 = true then
       (cY a0 a1 a2 p16 r3 x1 x15 (some (aA.mk 0 a1 a2 r33 r24)) p18 (p19.set r3.1.toNat p16) p20).bind fun (r324:(List Int)) =>
       some (((some (aA.mk 0 a1 a2 r33 r24)),p18,r324,p20))
      else
       (cY a0 a1 a2 p16 r3 x1 x15 p17 p18 (p19.set r3.1.toNat p16) p20).bind fun (r325:(List Int)) =>
       some ((p17,p18,r325,p20))
   else none
  else
   (b6 p20 p16).bind fun (r36:Bool) =>
   if (p20.length + 1) * 8 <= 140737488355328 then
    if r3.2 = true then
     if (!(r36)) = true then
      (m3 a0 a1 a2 p16 p17 p18 p19 p20 r3 x1 x15).bind fun (r265:(Option aA) × (Option aA) × (List Int) × (List Int)) =>
      (jA a0 a1 a2 p16 r3 x1 x15 r265.1 r265.2.1 r265.2.2.1 r265.2.2.2).bind fun (r313:Unit) =>
      (cY a0 a1 a2 p16 r3 x1 x15 r265.1 r265.2.1 r265.2.2.1 (r265.2.2.2.take ((IntKind.wrap .i64 ((r265.2.2.2.length:Int) - 1)).toNat))).bind fun (r326:(List Int)) =>
      some ((r265.1,r265.2.1,r326,(r265.2.2.2.take ((IntKind.wrap .i64 ((r265.2.2.2.length:Int) - 1)).toNat))))
     else
      (kZ a0 a1 a2 p16 p17 p18 p19 p20 r3 x1 x15).bind fun (r307:(Option aA) × (Option aA)) =>
      (jA a0 a1 a2 p16 r3 x1 x15 r307.1 r307.2 (p19.set r3.1.toNat p16) (p20 ++ [p16])).bind fun (r314:Unit) =>
      (cY a0 a1 a2 p16 r3 x1 x15 r307.1 r307.2 (p19.set r3.1.toNat p16) ((p20 ++ [p16]).take ((IntKind.wrap .i64 (((p20 ++ [p16]).length:Int) - 1)).toNat))).bind fun (r327:(List Int)) =>
      some ((r307.1,r307.2,r327,((p20 ++ [p16]).take ((IntKind.wrap .i64 (((p20 ++ [p16]).length:Int) - 1)).toNat))))
    else
     (kZ a0 a1 a2 p16 p17 p18 p19 p20 r3 x1 x15).bind fun (r308:(Option aA) × (Option aA)) =>
     (jA a0 a1 a2 p16 r3 x1 x15 r308.1 r308.2 (p19.set r3.1.toNat p16) (p20 ++ [p16])).bind fun (r315:Unit) =>
     (cY a0 a1 a2 p16 r3 x1 x15 r308.1 r308.2 (p19.set r3.1.toNat p16) ((p20 ++ [p16]).take ((IntKind.wrap .i64 (((p20 ++ [p16]).length:Int) - 1)).toNat))).bind fun (r328:(List Int)) =>
     some ((r308.1,r308.2,r328,((p20 ++ [p16]).take ((IntKind.wrap .i64 (((p20 ++ [p16]).length:Int) - 1)).toNat))))
   else none
 else none
def gU (a0:aB) (a1 a2:Int) (r3:Int × Bool) (x1 x15 p16:Int) (p17 p18:Option aA) (p19 p20:List Int):Option ((Int × (Option aA) × (Option aA) × (List Int) × (List Int)) ⊕ ((Option aA) × (Option aA))) :=
 if decide (p16 < (a0.Orders.length:Int)) = true then
  if (!(x15 == (-1))) = true then
   if 0 <= r3.1 ∧ r3.1.toNat < p19.length then
    (p19[r3.1.toNat]?).bind fun (x21:Int) =>
    if (x21 != p16) = true then
     some (.inl (IntKind.wrap .i64 (p16 + 1),p17,p18,p19,p20))
    else
     (kW a0 a1 a2 p16 p17 p18 p19 p20 r3 x1 x15).bind fun (r333:(Option aA) × (Option aA) × (List Int) × (List Int)) =>
     some (.inl (IntKind.wrap .i64 (p16 + 1),r333.1,r333.2.1,r333.2.2.1,r333.2.2.2))
   else none
  else
   (kW a0 a1 a2 p16 p17 p18 p19 p20 r3 x1 x15).bind fun (r334:(Option aA) × (Option aA) × (List Int) × (List Int)) =>
   some (.inl (IntKind.wrap .i64 (p16 + 1),r334.1,r334.2.1,r334.2.2.1,r334.2.2.2))
 else
  some (.inr ((p17,p18)))
def mV (a0:aB) (a1 a2:Int) (r3:Int × Bool) (x1 x15 p16:Int) (p17 p18:Option aA) (p19 p20:List Int):Option ((Option aA) × (Option aA)) :=
 eO (fun (w:Int × (Option aA) × (Option aA) × (List Int) × (List Int))=>gU a0 a1 a2 r3 x1 x15 w.1 w.2.1 w.2.2.1 w.2.2.2.1 w.2.2.2.2) (p16,p17,p18,p19,p20)
def qX (a0:aB) (a1 a2:Int):Option (aI) :=
 if 0 <= (IntKind.wrap .i64 (([a1].length:Int) - 1)) ∧ (IntKind.wrap .i64 (([a1].length:Int) - 1)).toNat < 1 then
  ([a1][(IntKind.wrap .i64 (([a1].length:Int) - 1)).toNat]?).bind fun (x1:Int) =>
  (at? a0.Orders x1).bind fun (x2:aC) =>
  (mA x2 a2).bind fun (r3:Int × Bool) =>
  if (r3.1 == 0) = true then
   (aE [a1,(-1),(-1),(-1),(-1)]).bind fun (r4:(List Int)) =>
   (aE [a1]).bind fun (r5:(List Int)) =>
   if 0 <= (IntKind.wrap .i64 (([a1].length:Int) - 1)) ∧ (IntKind.wrap .i64 (([a1].length:Int) - 1)).toNat < 1 then
    ([a1][(IntKind.wrap .i64 (([a1].length:Int) - 1)).toNat]?).bind fun (x6:Int) =>
    (at? a0.Orders x6).bind fun (x7:aC) =>
    (eW x7 a2).bind fun (r8:Bool) =>
    if r8 = true then
     some (aI.mk none none)
    else
     (oJ a1 a2 r4 r5 0 r4).bind fun (r14:(List Int)) =>
     some (aI.mk (some (aA.mk 0 a1 a2 r14 r5)) none)
   else none
  else
   if 0 <= r3.1 ∧ r3.1.toNat < 5 then
    ([a1,(-1),(-1),(-1),(-1)][r3.1.toNat]?).bind fun (x15:Int) =>
    (mV a0 a1 a2 r3 x1 x15 0 none none [a1,(-1),(-1),(-1),(-1)] [a1]).bind fun (r337:(Option aA) × (Option aA)) =>
    some (aI.mk r337.1 r337.2)
   else none
 else none
def mU (a0:aB) (p2 p4 p7:Int) (p8:List aA) (r6:aI) (p9:Option aA):Option ((List aA)) :=
 if p9.isSome = true then
  (p9).bind fun (x10:aA) =>
  if (p8.length + 1) * 72 <= 140737488355328 then
   some (p8 ++ [x10])
  else none
 else
  some (p8)
def jH (a0:aB) (p2 p4:Int) (r6:aI) (p7:Int) (p8:List aA):Option ((Int × (List aA)) ⊕ ((List aA))) :=
 if decide (p7 < 2) = true then
  if p7 = 0 then
   (mU a0 p2 p4 p7 p8 r6 r6.e0).bind fun (r12:(List aA)) =>
   some (.inl (IntKind.wrap .i64 (p7 + 1),r12))
  else
   if p7 = 1 then
    (mU a0 p2 p4 p7 p8 r6 r6.e1).bind fun (r13:(List aA)) =>
    some (.inl (IntKind.wrap .i64 (p7 + 1),r13))
   else none
 else
  some (.inr (p8))
def qO (a0:aB) (p2 p4:Int) (r6:aI) (p7:Int) (p8:List aA):Option ((List aA)) :=
 eO (fun (w:Int × (List aA))=>jH a0 p2 p4 r6 w.1 w.2) (p7,p8)
def i6 (a0:aB) (p2 p4:Int) (p5:List aA):Option ((Int × (List aA)) ⊕ ((List aA))) :=
 if decide (p4 < 22) = true then
  (qX a0 p2 p4).bind fun (r6:aI) =>
  (qO a0 p2 p4 r6 0 p5).bind fun (r15:(List aA)) =>
  some (.inl (IntKind.wrap .i64 (p4 + 1),r15))
 else
  some (.inr (p5))
def qM (a0:aB) (p2 p4:Int) (p5:List aA):Option ((List aA)) :=
 eO (fun (w:Int × (List aA))=>i6 a0 p2 w.1 w.2) (p4,p5)
def jB (a0:aB) (p2:Int) (p3:List aA):Option ((Int × (List aA)) ⊕ ((List aA))) :=
 if decide (p2 < (a0.Orders.length:Int)) = true then
  (qM a0 p2 0 p3).bind fun (r17:(List aA)) =>
  some (.inl (IntKind.wrap .i64 (p2 + 1),r17))
 else
  some (.inr (p3))
def uQ (a0:aB) (p2:Int) (p3:List aA):Option ((List aA)) :=
 eO (fun (w:Int × (List aA))=>jB a0 w.1 w.2) (p2,p3)
def fB (a0:aB):Option ((List aA) × Int) :=
 (gN a0).bind fun (r1:Int) =>
 if (r1 != 0) = true then
  some ([],r1)
 else
  (uQ a0 0 []).bind fun (r19:(List aA)) =>
  some (r19,0)
def iM (a0 a1:List Int) (p1:Int):Option ((Int) ⊕ (Unit ⊕ Unit)) :=
 if decide (p1 < (a0.length:Int)) = true then
  (at? a0 p1).bind fun (x2:Int) =>
  (at? a1 p1).bind fun (x3:Int) =>
  if (x2 != x3) = true then
   some (.inr (.inr (())))
  else
   some (.inl (IntKind.wrap .i64 (p1 + 1)))
 else
  some (.inr (.inl ()))
def mT (a0 a1:List Int) (p1:Int):Option (Unit ⊕ Unit) :=
 eO (fun (w:Int)=>iM a0 a1 w) p1
def iV (a0 a1:List Int):Option (Bool) :=
 if ((a0.length:Int) != (a1.length:Int)) = true then
  some false
 else
  (mT a0 a1 0).bind fun (r4:Unit ⊕ Unit)=>Sum.elim (fun z5 =>
  some true) (fun z6 =>
  some false) r4
def pS (a0 a1:aA):Option (Bool) :=
 if (a0.Kind == a1.Kind) = true then
  if (a0.Forum == a1.Forum) = true then
   if (a0.Ask == a1.Ask) = true then
    (iV a0.Places a1.Places).bind fun (r1:Bool) =>
    if r1 = true then
     (iV a0.Path a1.Path).bind fun (r2:Bool) =>
     some r2
    else
     some false
   else
    some false
  else
   some false
 else
  some false
def i5 (a0 a1:List aA) (p1:Int):Option ((Int) ⊕ (Unit ⊕ Unit)) :=
 if decide (p1 < (a0.length:Int)) = true then
  (at? a0 p1).bind fun (x2:aA) =>
  (at? a1 p1).bind fun (x3:aA) =>
  (pS x2 x3).bind fun (r4:Bool) =>
  if (!(r4)) = true then
   some (.inr (.inr (())))
  else
   some (.inl (IntKind.wrap .i64 (p1 + 1)))
 else
  some (.inr (.inl ()))
def nK (a0 a1:List aA) (p1:Int):Option (Unit ⊕ Unit) :=
 eO (fun (w:Int)=>i5 a0 a1 w) p1
def mQ (a0 a1:List aA):Option (Bool) :=
 if ((a0.length:Int) != (a1.length:Int)) = true then
  some false
 else
  (nK a0 a1 0).bind fun (r5:Unit ⊕ Unit)=>Sum.elim (fun z6 =>
  some true) (fun z7 =>
  some false) r5
def nY (a0 a1:Int):Option (Bool) :=
 if decide (a0 < 0) = true then
  some true
 else
  some (decide (a0 ≥ a1))
def fJ (a0:List Int) (a1 p1:Int):Option ((Int) ⊕ (Unit ⊕ Int)) :=
 if decide (p1 < (a0.length:Int)) = true then
  (at? a0 p1).bind fun (x2:Int) =>
  (nY x2 a1).bind fun (r3:Bool) =>
  if r3 = true then
   some (.inr (.inr (p1)))
  else
   some (.inl (IntKind.wrap .i64 (p1 + 1)))
 else
  some (.inr (.inl ()))
def jV (a0:List Int) (a1 p1:Int):Option (Unit ⊕ Int) :=
 eO (fun (w:Int)=>fJ a0 a1 w) p1
def iG (a0:List Int) (a1:Int):Option (Int) :=
 (jV a0 a1 0).bind fun (r5:Unit ⊕ Int)=>Sum.elim (fun z6 =>
 some (-1)) (fun z7 =>
 some z7) r5
def gF (a0:List Int) (a1:Int):Option (Bool) :=
 (iG a0 a1).bind fun (r1:Int) =>
 some (decide (r1 ≥ 0))
def sI (a0:aB) (a1 a2:Int) (a3:List Int):Option (Bool) :=
 if decide (a1 < 0) = true then
  some false
 else
  if decide (a1 ≥ (a0.Orders.length:Int)) = true then
   some false
  else
   if decide (a2 < 0) = true then
    some false
   else
    if decide (a2 ≥ 22) = true then
     some false
    else
     if ((a3.length:Int) != 5) = true then
      some false
     else
      (gF a3 (a0.Orders.length:Int)).bind fun (r1:Bool) =>
      some (!(r1))
def m6 (a1 a2:Int) (a3:List Int) (x2:aC) (p3:Int):Option ((Int) ⊕ (Unit ⊕ (Int × Bool))) :=
 if decide (p3 < (x2.Choices.length:Int)) = true then
  (at? x2.Choices p3).bind fun (x4:aK) =>
  if (x4.Ask == a2) = true then
   if (x4.By != 0) = true then
    (at? a3 x4.By).bind fun (x5:Int) =>
    some (.inr (.inr ((x5,x4.Whole))))
   else
    some (.inl (IntKind.wrap .i64 (p3 + 1)))
  else
   some (.inl (IntKind.wrap .i64 (p3 + 1)))
 else
  some (.inr (.inl ()))
def vK (a1 a2:Int) (a3:List Int) (x2:aC) (p3:Int):Option (Unit ⊕ (Int × Bool)) :=
 eO (fun (w:Int)=>m6 a1 a2 a3 x2 w) p3
def uV (a0:aB) (a1 a2:Int) (a3:List Int):Option (Int × Bool) :=
 (sI a0 a1 a2 a3).bind fun (r1:Bool) =>
 if (!(r1)) = true then
  some ((-1),false)
 else
  (at? a0.Orders a1).bind fun (x2:aC) =>
  (vK a1 a2 a3 x2 0).bind fun (r8:Unit ⊕ (Int × Bool))=>Sum.elim (fun z9 =>
  some (a1,false)) (fun z10 =>
  some (z10.1,z10.2)) r8
def pX (a0:aB) (a2:Int) (a3 p3:List Int):Option (((List Int)) ⊕ (Int × (List Int))) :=
 if 0 <= (IntKind.wrap .i64 ((p3.length:Int) - 1)) ∧ (IntKind.wrap .i64 ((p3.length:Int) - 1)).toNat < p3.length then
  (p3[(IntKind.wrap .i64 ((p3.length:Int) - 1)).toNat]?).bind fun (x4:Int) =>
  (uV a0 x4 a2 a3).bind fun (r5:Int × Bool) =>
  if (r5.1 == x4) = true then
   some (.inr ((0,p3)))
  else
   (b6 p3 r5.1).bind fun (r6:Bool) =>
   if (p3.length + 1) * 8 <= 140737488355328 then
    if (!(r5.2)) = true then
     some (.inr ((0,p3 ++ [r5.1])))
    else
     if r6 = true then
      (at? a0.Orders r5.1).bind fun (x7:aC) =>
      if x7.Accepts = true then
       some (.inr ((0,p3 ++ [r5.1])))
      else
       if r6 = true then
        some (.inr ((12,p3 ++ [r5.1])))
       else
        some (.inl (p3 ++ [r5.1]))
     else
      if r6 = true then
       some (.inr ((12,p3 ++ [r5.1])))
      else
       some (.inl (p3 ++ [r5.1]))
   else none
 else none
def xZ (a0:aB) (a2:Int) (a3 p3:List Int):Option (Int × (List Int)) :=
 eO (fun (w:(List Int))=>pX a0 a2 a3 w) p3
def yE (a0:aB) (a1 a2:Int) (a3:List Int):Option ((List Int) × Int) :=
 (sI a0 a1 a2 a3).bind fun (r1:Bool) =>
 if (!(r1)) = true then
  some ([],1)
 else
  (at? a3 0).bind fun (x2:Int) =>
  if (x2 != a1) = true then
   some ([],1)
  else
   (xZ a0 a2 a3 [a1]).bind fun (r10:Int × (List Int)) =>
   some (r10.2,r10.1)
def i8 (a0 a1:List Int) (p1:Int):Option ((Int) ⊕ (Unit ⊕ Unit)) :=
 if decide (p1 < (a0.length:Int)) = true then
  (at? a0 p1).bind fun (x2:Int) =>
  (at? a1 p1).bind fun (x3:Int) =>
  if (x2 != x3) = true then
   some (.inr (.inr (())))
  else
   some (.inl (IntKind.wrap .i64 (p1 + 1)))
 else
  some (.inr (.inl ()))
def nP (a0 a1:List Int) (p1:Int):Option (Unit ⊕ Unit) :=
 eO (fun (w:Int)=>i8 a0 a1 w) p1
def j0 (a0 a1:List Int):Option (Bool) :=
 if ((a0.length:Int) != (a1.length:Int)) = true then
  some false
 else
  (nP a0 a1 0).bind fun (r4:Unit ⊕ Unit)=>Sum.elim (fun z5 =>
  some true) (fun z6 =>
  some false) r4
def uN (a0:aB) (a1:aA) (r2:(List Int) × Int):Option (Bool) :=
 if (r2.2 == 12) = true then
  some (a1.Kind == 1)
 else
  if (a1.Kind == 0) = true then
   (at? r2.1 (IntKind.wrap .i64 ((r2.1.length:Int) - 1))).bind fun (x5:Int) =>
   (at? a0.Orders x5).bind fun (x6:aC) =>
   (eW x6 a1.Ask).bind fun (r7:Bool) =>
   some (!(r7))
  else
   some (false)
def m7 (a0:aB) (a1:aA):Option (Bool) :=
 (gN a0).bind fun (r1:Int) =>
 if (r1 != 0) = true then
  some false
 else
  (yE a0 a1.Forum a1.Ask a1.Places).bind fun (r2:(List Int) × Int) =>
  if (r2.2 != 0) = true then
   if (r2.2 != 12) = true then
    some false
   else
    (j0 r2.1 a1.Path).bind fun (r3:Bool) =>
    if (!(r3)) = true then
     some false
    else
     (uN a0 a1 r2).bind fun (r9:Bool) =>
     some r9
  else
   (j0 r2.1 a1.Path).bind fun (r4:Bool) =>
   if (!(r4)) = true then
    some false
   else
    (uN a0 a1 r2).bind fun (r10:Bool) =>
    some r10
def iX (a0:aB):Option (Bool) :=
 (fB a0).bind fun (r1:(List aA) × Int) =>
 if (r1.2 == 0) = true then
  some ((r1.1.length:Int) == 0)
 else
  some false
def gR:Option (Bool) :=
 (mM).bind fun (r1:aB) =>
 (fB r1).bind fun (r2:(List aA) × Int) =>
 if (0 + 1) * 72 <= 140737488355328 then
  if ((([]:List aA) ++ [(aA.mk 1 0 1 [0,0,0,0,1] [0,1,0])]).length + 1) * 72 <= 140737488355328 then
   if (((([]:List aA) ++ [(aA.mk 1 0 1 [0,0,0,0,1] [0,1,0])]) ++ [(aA.mk 0 0 6 [0,0,1,0,0] [0,1])]).length + 1) * 72 <= 140737488355328 then
    if ((((([]:List aA) ++ [(aA.mk 1 0 1 [0,0,0,0,1] [0,1,0])]) ++ [(aA.mk 0 0 6 [0,0,1,0,0] [0,1])]) ++ [(aA.mk 1 1 1 [1,0,0,0,1] [1,0,1])]).length + 1) * 72 <= 140737488355328 then
     if 0 <= 1 ∧ 1 < ((((([]:List aA) ++ [(aA.mk 1 0 1 [0,0,0,0,1] [0,1,0])]) ++ [(aA.mk 0 0 6 [0,0,1,0,0] [0,1])]) ++ [(aA.mk 1 1 1 [1,0,0,0,1] [1,0,1])]) ++ [(aA.mk 0 1 6 [1,0,0,0,0] [1])]).length then
      (((((([]:List aA) ++ [(aA.mk 1 0 1 [0,0,0,0,1] [0,1,0])]) ++ [(aA.mk 0 0 6 [0,0,1,0,0] [0,1])]) ++ [(aA.mk 1 1 1 [1,0,0,0,1] [1,0,1])]) ++ [(aA.mk 0 1 6 [1,0,0,0,0] [1])])[1]?).bind fun (x3:aA) =>
      if 0 <= 1 ∧ 1 < ((((([]:List aA) ++ [(aA.mk 1 0 1 [0,0,0,0,1] [0,1,0])]) ++ [(aA.mk 0 0 6 [0,0,1,0,0] [0,1])]) ++ [(aA.mk 1 1 1 [1,0,0,0,1] [1,0,1])]) ++ [(aA.mk 0 1 6 [1,0,0,0,0] [1])]).length then
       (((((([]:List aA) ++ [(aA.mk 1 0 1 [0,0,0,0,1] [0,1,0])]) ++ [(aA.mk 0 0 6 [0,0,1,0,0] [0,1])]) ++ [(aA.mk 1 1 1 [1,0,0,0,1] [1,0,1])]) ++ [(aA.mk 0 1 6 [1,0,0,0,0] [1])])[1]?).bind fun (x4:aA) =>
       if (r2.2 == 0) = true then
        (mQ r2.1 ((((([]:List aA) ++ [(aA.mk 1 0 1 [0,0,0,0,1] [0,1,0])]) ++ [(aA.mk 0 0 6 [0,0,1,0,0] [0,1])]) ++ [(aA.mk 1 1 1 [1,0,0,0,1] [1,0,1])]) ++ [(aA.mk 0 1 6 [1,0,0,0,0] [1])])).bind fun (r5:Bool) =>
        if r5 = true then
         if 0 <= 0 ∧ 0 < ((((([]:List aA) ++ [(aA.mk 1 0 1 [0,0,0,0,1] [0,1,0])]) ++ [(aA.mk 0 0 6 [0,0,1,0,0] [0,1])]) ++ [(aA.mk 1 1 1 [1,0,0,0,1] [1,0,1])]) ++ [(aA.mk 0 1 6 [1,0,0,0,0] [1])]).length then
          (((((([]:List aA) ++ [(aA.mk 1 0 1 [0,0,0,0,1] [0,1,0])]) ++ [(aA.mk 0 0 6 [0,0,1,0,0] [0,1])]) ++ [(aA.mk 1 1 1 [1,0,0,0,1] [1,0,1])]) ++ [(aA.mk 0 1 6 [1,0,0,0,0] [1])])[0]?).bind fun (x6:aA) =>
          (m7 r1 x6).bind fun (r7:Bool) =>
          if r7 = true then
           (m7 r1 (aA.mk x3.Kind x3.Forum x3.Ask [0,1,1,1,1] x3.Path)).bind fun (r8:Bool) =>
           if r8 = true then
            (m7 r1 (aA.mk 1 x4.Forum x4.Ask x4.Places x4.Path)).bind fun (r9:Bool) =>
            if (!(r9)) = true then
             (iX r1).bind fun (r10:Bool) =>
             if (!(r10)) = true then
              (iX (aB.mk [] [] [] [] [] [] [] [])).bind fun (r11:Bool) =>
              some r11
             else
              some false
            else
             some false
           else
            some false
          else
           some false
         else none
        else
         some false
       else
        some false
      else none
     else none
    else none
   else none
  else none
 else none
def eU (a0:aB) (p1:Int):Option ((Int) ⊕ (Unit ⊕ Unit)) :=
 if decide (p1 < (a0.Cities.length:Int)) = true then
  if decide (p1 < 50) = true then
   (at? a0.Cities p1).bind fun (x2:aW) =>
   if decide ((x2.Feasts.length:Int) > 70) = true then
    some (.inr (.inr (())))
   else
    (at? a0.Cities p1).bind fun (x3:aW) =>
    if decide ((x3.Shut.length:Int) > 210) = true then
     some (.inr (.inr (())))
    else
     (at? a0.Cities p1).bind fun (x4:aW) =>
     if decide ((x4.Rest.length:Int) > 8) = true then
      some (.inr (.inr (())))
     else
      some (.inl (IntKind.wrap .i64 (p1 + 1)))
  else
   some (.inr (.inl ()))
 else
  some (.inr (.inl ()))
def nH (a0:aB) (p1:Int):Option (Unit ⊕ Unit) :=
 eO (fun (w:Int)=>eU a0 w) p1
def e8 (a0:aB) (p8:Int):Option ((Int) ⊕ (Unit ⊕ Unit)) :=
 if decide (p8 < (a0.Orders.length:Int)) = true then
  if decide (p8 < 50) = true then
   (at? a0.Orders p8).bind fun (x9:aC) =>
   if decide ((x9.Choices.length:Int) > 40) = true then
    some (.inr (.inr (())))
   else
    (at? a0.Orders p8).bind fun (x10:aC) =>
    if decide ((x10.Rules.length:Int) > 40) = true then
     some (.inr (.inr (())))
    else
     some (.inl (IntKind.wrap .i64 (p8 + 1)))
  else
   some (.inr (.inl ()))
 else
  some (.inr (.inl ()))
def mY (a0:aB) (p8:Int):Option (Unit ⊕ Unit) :=
 eO (fun (w:Int)=>e8 a0 w) p8
def k9 (a0:aB):Option (Bool) :=
 (nH a0 0).bind fun (r5:Unit ⊕ Unit)=>Sum.elim (fun z6 =>
 (mY a0 0).bind fun (r11:Unit ⊕ Unit)=>Sum.elim (fun z12 =>
  if decide ((a0.Currencies.length:Int) < 50) = true then
    if decide ((a0.Cities.length:Int) < 50) = true then
     if decide ((a0.Groups.length:Int) < 50) = true then
      if decide ((a0.Firms.length:Int) < 210) = true then
       if decide ((a0.Orders.length:Int) < 50) = true then
        if decide ((a0.Usances.length:Int) < 110) = true then
         if decide ((a0.Rates.length:Int) < 110) = true then
          some (decide ((a0.Halts.length:Int) < 50))
         else
          some false
        else
         some false
       else
        some false
      else
       some false
     else
      some false
    else
     some false
   else
    some false) (fun z13 =>
  some false) r11) (fun z7 =>
 some false) r5
def lF (a0:aB):Option (Bool) :=
 (k9 a0).bind fun (r1:Bool) =>
 if r1 = true then
  some (decide ((a0.Orders.length:Int) <= 3))
 else
  some false
def cA (a0:aB) (r1:Bool) (r3:(List aA) × Int) (p4:Int) (p5 p6 p7:List aC):Option ((Int × (List aC) × (List aC) × (List aC)) ⊕ ((List aC) × (List aC) × (List aC))) :=
 if decide (p4 < (a0.Orders.length:Int)) = true then
  if 0 <= p4 ∧ p4.toNat < p5.length then
   (p5[p4.toNat]?).bind fun (x8:aC) =>
   if 0 <= p4 ∧ p4.toNat < p6.length then
    (p6[p4.toNat]?).bind fun (x9:aC) =>
    (fP (⟨#[97]⟩ : ByteArray) (-1)).bind fun (r10:aC) =>
    if 0 <= p4 ∧ p4.toNat < (p6.set p4.toNat (aC.mk x9.Name true x9.Choices x9.Rules)).length then
     ((p6.set p4.toNat (aC.mk x9.Name true x9.Choices x9.Rules))[p4.toNat]?).bind fun (x11:aC) =>
     (at? a0.Orders p4).bind fun (x12:aC) =>
     if (0 + x12.Choices.length) * 24 <= 140737488355328 then
      if 0 <= p4 ∧ p4.toNat < p7.length then
       if 0 <= p4 ∧ p4.toNat < p7.length then
        (p7[p4.toNat]?).bind fun (x13:aC) =>
        some (.inl (IntKind.wrap .i64 (p4 + 1),p5.set p4.toNat (aC.mk x8.Name true x8.Choices x8.Rules),(p6.set p4.toNat (aC.mk x9.Name true x9.Choices x9.Rules)).set p4.toNat (aC.mk x11.Name x11.Accepts x11.Choices r10.Rules),p7.set p4.toNat (aC.mk x13.Name x13.Accepts (List.map (fun (x:aK)=>(aK.mk x.Ask x.By false)) (([]:List aK) ++ x12.Choices)) x13.Rules)))
       else none
      else none
     else none
    else none
   else none
  else none
 else
  some (.inr ((p5,p6,p7)))
def fZ (a0:aB) (r1:Bool) (r3:(List aA) × Int) (p4:Int) (p5 p6 p7:List aC):Option ((List aC) × (List aC) × (List aC)) :=
 eO (fun (w:Int × (List aC) × (List aC) × (List aC))=>cA a0 r1 r3 w.1 w.2.1 w.2.2.1 w.2.2.2) (p4,p5,p6,p7)
def cC (r1:Bool) (r18 r19 r3:(List aA) × Int) (p21 p22:Int):Option ((Int × Int) ⊕ (Int)) :=
 if decide (p22 < (r3.1.length:Int)) = true then
  (at? r3.1 p22).bind fun (x23:aA) =>
  if (x23.Kind == 0) = true then
   some (.inl (IntKind.wrap .i64 (p21 + 1),IntKind.wrap .i64 (p22 + 1)))
  else
   some (.inl (p21,IntKind.wrap .i64 (p22 + 1)))
 else
  some (.inr (p21))
def gA (r1:Bool) (r18 r19 r3:(List aA) × Int) (p21 p22:Int):Option (Int) :=
 eO (fun (w:Int × Int)=>cC r1 r18 r19 r3 w.1 w.2) (p21,p22)
def b9 (r1:Bool) (r18 r19:(List aA) × Int) (r25 p26:Int):Option ((Int) ⊕ (Unit ⊕ Unit)) :=
 if decide (p26 < (r18.1.length:Int)) = true then
  (at? r18.1 p26).bind fun (x27:aA) =>
  if (x27.Kind != 0) = true then
   some (.inr (.inr (())))
  else
   some (.inl (IntKind.wrap .i64 (p26 + 1)))
 else
  some (.inr (.inl ()))
def fT (r1:Bool) (r18 r19:(List aA) × Int) (r25 p26:Int):Option (Unit ⊕ Unit) :=
 eO (fun (w:Int)=>b9 r1 r18 r19 r25 w) p26
def cE (r1:Bool) (r18 r19:(List aA) × Int) (r25 p31:Int):Option ((Int) ⊕ (Unit ⊕ Unit)) :=
 if decide (p31 < (r19.1.length:Int)) = true then
  (at? r19.1 p31).bind fun (x32:aA) =>
  if (x32.Kind != 0) = true then
   some (.inr (.inr (())))
  else
   some (.inl (IntKind.wrap .i64 (p31 + 1)))
 else
  some (.inr (.inl ()))
def fU (r1:Bool) (r18 r19:(List aA) × Int) (r25 p31:Int):Option (Unit ⊕ Unit) :=
 eO (fun (w:Int)=>cE r1 r18 r19 r25 w) p31
def iF (a0:aB):Option (Bool) :=
 (gR).bind fun (r1:Bool) =>
 (lF a0).bind fun (r2:Bool) =>
 if (!(r2)) = true then
  some r1
 else
  (fB a0).bind fun (r3:(List aA) × Int) =>
  if (r3.2 != 0) = true then
   some r1
  else
   if (0 + a0.Orders.length) * 72 <= 140737488355328 then
    if (0 + a0.Orders.length) * 72 <= 140737488355328 then
     if (0 + a0.Orders.length) * 72 <= 140737488355328 then
      (fZ a0 r1 r3 0 (([]:List aC) ++ a0.Orders) (([]:List aC) ++ a0.Orders) (([]:List aC) ++ a0.Orders)).bind fun (r17:(List aC) × (List aC) × (List aC)) =>
      (fB (aB.mk a0.Currencies a0.Cities a0.Groups a0.Firms r17.1 a0.Usances a0.Rates a0.Halts)).bind fun (r18:(List aA) × Int) =>
      (fB (aB.mk a0.Currencies a0.Cities a0.Groups a0.Firms r17.2.2 a0.Usances a0.Rates a0.Halts)).bind fun (r19:(List aA) × Int) =>
      if (r18.2 != 0) = true then
       some false
      else
       if (r19.2 != 0) = true then
        some false
       else
        (iX (aB.mk a0.Currencies a0.Cities a0.Groups a0.Firms r17.2.1 a0.Usances a0.Rates a0.Halts)).bind fun (r20:Bool) =>
        if (!(r20)) = true then
         some false
        else
         (gA r1 r18 r19 r3 0 0).bind fun (r25:Int) =>
         (fT r1 r18 r19 r25 0).bind fun (r28:Unit ⊕ Unit)=>Sum.elim (fun z29 =>
         (fU r1 r18 r19 r25 0).bind fun (r33:Unit ⊕ Unit)=>Sum.elim (fun z34 =>
          if r1 = true then
            some (decide ((r18.1.length:Int) ≥ r25))
           else
            some false) (fun z35 =>
          some false) r33) (fun z30 =>
         some false) r28
     else none
    else none
   else none
end
end Go.Proofs.Ytjjcaapdaldedaa
