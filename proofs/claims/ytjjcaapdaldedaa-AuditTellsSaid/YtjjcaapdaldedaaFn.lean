/- What the functions compute, as plain definitions. Printed by a program. -/
import Derived.Test.YtjjcaapdaldedaaTab
set_option linter.unusedVariables false
set_option linter.unusedSimpArgs false
namespace Go.Proofs.Ytjjcaapdaldedaa
noncomputable section
open Vm
open Go.RowKit
def mM (a0:ByteArray) (a1 p1:Int) (p2:List a8):Option ((Int × (List a8)) ⊕ ((List a8))) :=
 if decide (p1 < 22) = true then
  if (p1 != a1) = true then
   if (p2.length + 1) * 48 <= 140737488355328 then
    some (.inl (IntKind.wrap .i64 (p1 + 1),p2 ++ [(a8.mk p1 (nW.mk 1 1 []))]))
   else none
  else
   some (.inl (IntKind.wrap .i64 (p1 + 1),p2))
 else
  some (.inr (p2))
def tG (a0:ByteArray) (a1 p1:Int) (p2:List a8):Option ((List a8)) :=
 b8 (fun (w:Int × (List a8))=>mM a0 a1 w.1 w.2) (p1,p2)
def nX (a0:ByteArray) (a1:Int):Option (aG) :=
 (tG a0 a1 0 []).bind fun (r4:(List a8)) =>
 some (aG.mk a0 false [] r4)
def o4:Option (aA) :=
 (nX (⟨#[103,101,110,101,118,97]⟩ : ByteArray) (-1)).bind fun (r1:aG) =>
 (nX (⟨#[108,111,110,100,111,110]⟩ : ByteArray) 6).bind fun (r2:aG) =>
 some (aA.mk [] [] [] [] [(aG.mk r1.Name r1.Accepts [(aM.mk 1 4 true),(aM.mk 6 2 false)] r1.Rules),(aG.mk r2.Name r2.Accepts [(aM.mk 1 1 true)] r2.Rules)] [] [] [])
def j9 (a0:aA) (p1:Int) (p2:List ByteArray):Option ((Int × (List ByteArray)) ⊕ ((List ByteArray))) :=
 if decide (p1 < (a0.Cities.length:Int)) = true then
  (at? a0.Cities p1).bind fun (x3:a7) =>
  if (p2.length + 1) * 16 <= 140737488355328 then
   some (.inl (IntKind.wrap .i64 (p1 + 1),p2 ++ [x3.Name]))
  else none
 else
  some (.inr (p2))
def xX (a0:aA) (p1:Int) (p2:List ByteArray):Option ((List ByteArray)) :=
 b8 (fun (w:Int × (List ByteArray))=>j9 a0 w.1 w.2) (p1,p2)
def kS (a0:aA) (r5:(List ByteArray)) (p6:Int) (p7:List ByteArray):Option ((Int × (List ByteArray)) ⊕ ((List ByteArray))) :=
 if decide (p6 < (a0.Firms.length:Int)) = true then
  (at? a0.Firms p6).bind fun (x8:cF) =>
  if (p7.length + 1) * 16 <= 140737488355328 then
   some (.inl (IntKind.wrap .i64 (p6 + 1),p7 ++ [x8.Name]))
  else none
 else
  some (.inr (p7))
def yB (a0:aA) (r5:(List ByteArray)) (p6:Int) (p7:List ByteArray):Option ((List ByteArray)) :=
 b8 (fun (w:Int × (List ByteArray))=>kS a0 r5 w.1 w.2) (p6,p7)
def kY (a0:aA) (r10 r5:(List ByteArray)) (p11:Int) (p12:List ByteArray):Option ((Int × (List ByteArray)) ⊕ ((List ByteArray))) :=
 if decide (p11 < (a0.Orders.length:Int)) = true then
  (at? a0.Orders p11).bind fun (x13:aG) =>
  if (p12.length + 1) * 16 <= 140737488355328 then
   some (.inl (IntKind.wrap .i64 (p11 + 1),p12 ++ [x13.Name]))
  else none
 else
  some (.inr (p12))
def xZ (a0:aA) (r10 r5:(List ByteArray)) (p11:Int) (p12:List ByteArray):Option ((List ByteArray)) :=
 b8 (fun (w:Int × (List ByteArray))=>kY a0 r10 r5 w.1 w.2) (p11,p12)
def vN (a0:aA):Option ((List ByteArray) × (List ByteArray) × (List ByteArray)) :=
 (xX a0 0 []).bind fun (r5:(List ByteArray)) =>
 (yB a0 r5 0 []).bind fun (r10:(List ByteArray)) =>
 (xZ a0 r10 r5 0 []).bind fun (r15:(List ByteArray)) =>
 some (r5,r10,r15)
def fI (a0:ByteArray) (p1 x2:Int) (p3:Bool):Option (Unit ⊕ Unit) :=
 if (!(p3)) = true then
  if (p1 == 0) = true then
   some (.inr (()))
  else
   if (x2 != 95) = true then
    if decide (x2 < 48) = true then
     some (.inr (()))
    else
     if decide (x2 > 57) = true then
      some (.inr (()))
     else
      some (.inl ())
   else
    some (.inl ())
 else
  some (.inl ())
def eF (a0:ByteArray) (p1:Int):Option ((Int) ⊕ (Unit ⊕ Unit)) :=
 if decide (p1 < ((jL a0).length:Int)) = true then
  (at? (jL a0) p1).bind fun (x2:Int) =>
  if decide (x2 ≥ 97) = true then
   if decide (x2 <= 122) = true then
    (fI a0 p1 x2 true).bind fun (r4:Unit ⊕ Unit)=>Sum.elim (fun z5 =>
    some (.inl (IntKind.wrap .i64 (p1 + 1)))) (fun z6 =>
    some (.inr (.inr (())))) r4
   else
    if decide (x2 ≥ 65) = true then
     (fI a0 p1 x2 (decide (x2 <= 90))).bind fun (r7:Unit ⊕ Unit)=>Sum.elim (fun z8 =>
     some (.inl (IntKind.wrap .i64 (p1 + 1)))) (fun z9 =>
     some (.inr (.inr (())))) r7
    else
     (fI a0 p1 x2 false).bind fun (r10:Unit ⊕ Unit)=>Sum.elim (fun z11 =>
     some (.inl (IntKind.wrap .i64 (p1 + 1)))) (fun z12 =>
     some (.inr (.inr (())))) r10
  else
   if decide (x2 ≥ 65) = true then
    (fI a0 p1 x2 (decide (x2 <= 90))).bind fun (r13:Unit ⊕ Unit)=>Sum.elim (fun z14 =>
    some (.inl (IntKind.wrap .i64 (p1 + 1)))) (fun z15 =>
    some (.inr (.inr (())))) r13
   else
    (fI a0 p1 x2 false).bind fun (r16:Unit ⊕ Unit)=>Sum.elim (fun z17 =>
    some (.inl (IntKind.wrap .i64 (p1 + 1)))) (fun z18 =>
    some (.inr (.inr (())))) r16
 else
  some (.inr (.inl ()))
def rU (a0:ByteArray) (p1:Int):Option (Unit ⊕ Unit) :=
 b8 (fun (w:Int)=>eF a0 w) p1
def oK (a0:ByteArray):Option (Bool) :=
 if (a0.toList == ByteArray.empty.toList) = true then
  some false
 else
  if decide ((a0.size:Int) > 20) = true then
   some false
  else
   (rU a0 0).bind fun (r19:Unit ⊕ Unit)=>Sum.elim (fun z20 =>
   some true) (fun z21 =>
   some false) r19
def bA (a0:List ByteArray) (a1:ByteArray) (p1:Int):Option ((Int) ⊕ (Unit ⊕ Int)) :=
 if decide (p1 < (a0.length:Int)) = true then
  (at? a0 p1).bind fun (x2:ByteArray) =>
  if (a1.toList == x2.toList) = true then
   some (.inr (.inr (p1)))
  else
   some (.inl (IntKind.wrap .i64 (p1 + 1)))
 else
  some (.inr (.inl ()))
def fK (a0:List ByteArray) (a1:ByteArray) (p1:Int):Option (Unit ⊕ Int) :=
 b8 (fun (w:Int)=>bA a0 a1 w) p1
def bX (a0:List ByteArray) (a1:ByteArray):Option (Int) :=
 (fK a0 a1 0).bind fun (r4:Unit ⊕ Int)=>Sum.elim (fun z5 =>
 some (-1)) (fun z6 =>
 some z6) r4
def bP (a0:List ByteArray) (a1:ByteArray):Option (Bool) :=
 (bX a0 a1).bind fun (r1:Int) =>
 some (decide (r1 ≥ 0))
def iN (a0:List ByteArray) (a1:Int):Option (Int) :=
 (at? a0 a1).bind fun (x1:ByteArray) =>
 (oK x1).bind fun (r2:Bool) =>
 if (!(r2)) = true then
  some 2
 else
  if B6 a0.length 0 a1 then
   (at? a0 a1).bind fun (x3:ByteArray) =>
   (bP (n7 a0 0 a1) x3).bind fun (r4:Bool) =>
   if r4 = true then
    some 5
   else
    some 0
  else none
def sD (a0:Int):Option (Bool) :=
 some true
def k9 (a0:List ByteArray) (p1:Int):Option ((Int) ⊕ (Unit ⊕ Int)) :=
 if decide (p1 < (a0.length:Int)) = true then
  (iN a0 p1).bind fun (r2:Int) =>
  if (r2 != 0) = true then
   some (.inr (.inr (r2)))
  else
   (sD p1).bind fun (r3:Bool) =>
   if (!(r3)) = true then
    some (.inr (.inr (1)))
   else
    some (.inl (IntKind.wrap .i64 (p1 + 1)))
 else
  some (.inr (.inl ()))
def AF (a0:List ByteArray) (p1:Int):Option (Unit ⊕ Int) :=
 b8 (fun (w:Int)=>k9 a0 w) p1
def mQ (a0:List ByteArray) (a1:Int):Option (Int) :=
 if decide ((a0.length:Int) > a1) = true then
  some 6
 else
  (AF a0 0).bind fun (r5:Unit ⊕ Int)=>Sum.elim (fun z6 =>
  some 0) (fun z7 =>
  some z7) r5
def iO (a0 a1:Int):Option (Bool) :=
 if decide (a0 ≥ 0) = true then
  some (decide (a0 < a1))
 else
  some false
def eE (a0:List Int) (a1 a2 p1:Int):Option ((Int) ⊕ (Unit ⊕ Unit)) :=
 if decide (p1 < (a0.length:Int)) = true then
  (at? a0 p1).bind fun (x2:Int) =>
  if decide (x2 < a1) = true then
   some (.inr (.inr (())))
  else
   if decide (x2 > a2) = true then
    some (.inr (.inr (())))
   else
    if decide (p1 > 0) = true then
     (at? a0 (IntKind.wrap .i64 (p1 - 1))).bind fun (x3:Int) =>
     if decide (x2 <= x3) = true then
      some (.inr (.inr (())))
     else
      some (.inl (IntKind.wrap .i64 (p1 + 1)))
    else
     some (.inl (IntKind.wrap .i64 (p1 + 1)))
 else
  some (.inr (.inl ()))
def rR (a0:List Int) (a1 a2 p1:Int):Option (Unit ⊕ Unit) :=
 b8 (fun (w:Int)=>eE a0 a1 a2 w) p1
def iI (a0:List Int) (a1 a2:Int):Option (Bool) :=
 (rR a0 a1 a2 0).bind fun (r4:Unit ⊕ Unit)=>Sum.elim (fun z5 =>
 some true) (fun z6 =>
 some false) r4
def gM (a0:aA) (a1:a7) (p1:Int):Option ((Int) ⊕ (Unit ⊕ Unit)) :=
 if decide (p1 < (a1.Feasts.length:Int)) = true then
  (at? a1.Feasts p1).bind fun (x2:Int) =>
  if decide ((x2.tmod 100) < 1) = true then
   some (.inr (.inr (())))
  else
   if decide ((x2.tmod 100) > 31) = true then
    some (.inr (.inr (())))
   else
    some (.inl (IntKind.wrap .i64 (p1 + 1)))
 else
  some (.inr (.inl ()))
def vE (a0:aA) (a1:a7) (p1:Int):Option (Unit ⊕ Unit) :=
 b8 (fun (w:Int)=>gM a0 a1 w) p1
def sK (a0:aA) (a1:a7):Option (Bool) :=
 (vE a0 a1 0).bind fun (r3:Unit ⊕ Unit)=>Sum.elim (fun z4 =>
 if decide ((a1.Feasts.length:Int) > 60) = true then
   some false
  else
   if decide ((a1.Shut.length:Int) > 200) = true then
    some false
   else
    (iO a1.Order (a0.Orders.length:Int)).bind fun (r6:Bool) =>
    if (!(r6)) = true then
     some false
    else
     (iO a1.Currency (a0.Currencies.length:Int)).bind fun (r7:Bool) =>
     if (!(r7)) = true then
      some false
     else
      (iI a1.Rest 0 6).bind fun (r8:Bool) =>
      if r8 = true then
       (iI a1.Feasts 101 1231).bind fun (r9:Bool) =>
       if r9 = true then
        (iI a1.Shut 0 100000).bind fun (r10:Bool) =>
        some r10
       else
        some false
      else
       some false) (fun z5 =>
 some false) r3
def iY (a0:Int) (a1:aA):Option (Bool) :=
 (at? a1.Cities a0).bind fun (x1:a7) =>
 (sK a1 x1).bind fun (r2:Bool) =>
 some r2
def lC (a0:List ByteArray) (a2:aA) (p1:Int):Option ((Int) ⊕ (Unit ⊕ Int)) :=
 if decide (p1 < (a0.length:Int)) = true then
  (iN a0 p1).bind fun (r2:Int) =>
  if (r2 != 0) = true then
   some (.inr (.inr (r2)))
  else
   (iY p1 a2).bind fun (r3:Bool) =>
   if (!(r3)) = true then
    some (.inr (.inr (1)))
   else
    some (.inl (IntKind.wrap .i64 (p1 + 1)))
 else
  some (.inr (.inl ()))
def A3 (a0:List ByteArray) (a2:aA) (p1:Int):Option (Unit ⊕ Int) :=
 b8 (fun (w:Int)=>lC a0 a2 w) p1
def mR (a0:List ByteArray) (a1:Int) (a2:aA):Option (Int) :=
 if decide ((a0.length:Int) > a1) = true then
  some 6
 else
  (A3 a0 a2 0).bind fun (r5:Unit ⊕ Int)=>Sum.elim (fun z6 =>
  some 0) (fun z7 =>
  some z7) r5
def hH (a0:Int) (a1:aA):Option (Bool) :=
 (at? a1.Firms a0).bind fun (x1:cF) =>
 (iO x1.City (a1.Cities.length:Int)).bind fun (r2:Bool) =>
 if r2 = true then
  (at? a1.Firms a0).bind fun (x3:cF) =>
  (iO x3.Group (a1.Groups.length:Int)).bind fun (r4:Bool) =>
  some r4
 else
  some false
def lA (a0:List ByteArray) (a2:aA) (p1:Int):Option ((Int) ⊕ (Unit ⊕ Int)) :=
 if decide (p1 < (a0.length:Int)) = true then
  (iN a0 p1).bind fun (r2:Int) =>
  if (r2 != 0) = true then
   some (.inr (.inr (r2)))
  else
   (hH p1 a2).bind fun (r3:Bool) =>
   if (!(r3)) = true then
    some (.inr (.inr (1)))
   else
    some (.inl (IntKind.wrap .i64 (p1 + 1)))
 else
  some (.inr (.inl ()))
def AH (a0:List ByteArray) (a2:aA) (p1:Int):Option (Unit ⊕ Int) :=
 b8 (fun (w:Int)=>lA a0 a2 w) p1
def mX (a0:List ByteArray) (a1:Int) (a2:aA):Option (Int) :=
 if decide ((a0.length:Int) > a1) = true then
  some 6
 else
  (AH a0 a2 0).bind fun (r5:Unit ⊕ Int)=>Sum.elim (fun z6 =>
  some 0) (fun z7 =>
  some z7) r5
def fM (a0:aG) (p1:Int) (p2:List Int):Option ((Int × (List Int)) ⊕ (((List Int)) ⊕ Unit)) :=
 if decide (p1 < (a0.Choices.length:Int)) = true then
  (at? a0.Choices p1).bind fun (x3:aM) =>
  if (p2.length + 1) * 8 <= 140737488355328 then
   (iO x3.By 5).bind fun (r4:Bool) =>
   if (!(r4)) = true then
    some (.inr (.inr (())))
   else
    some (.inl (IntKind.wrap .i64 (p1 + 1),p2 ++ [x3.Ask]))
  else none
 else
  some (.inr (.inl p2))
def tN (a0:aG) (p1:Int) (p2:List Int):Option (((List Int)) ⊕ Unit) :=
 b8 (fun (w:Int × (List Int))=>fM a0 w.1 w.2) (p1,p2)
def fN (a0:aG) (z7:(List Int)) (p9:Int) (p10:List Int):Option ((Int × (List Int)) ⊕ ((List Int))) :=
 if decide (p9 < (a0.Rules.length:Int)) = true then
  (at? a0.Rules p9).bind fun (x11:a8) =>
  if (p10.length + 1) * 8 <= 140737488355328 then
   some (.inl (IntKind.wrap .i64 (p9 + 1),p10 ++ [x11.Ask]))
  else none
 else
  some (.inr (p10))
def tM (a0:aG) (z7:(List Int)) (p9:Int) (p10:List Int):Option ((List Int)) :=
 b8 (fun (w:Int × (List Int))=>fN a0 z7 w.1 w.2) (p9,p10)
def qD (a0:aG):Option (Bool) :=
 (tN a0 0 []).bind fun (r6:((List Int)) ⊕ Unit)=>Sum.elim (fun z7 =>
 (tM a0 z7 0 []).bind fun (r13:(List Int)) =>
  (iI z7 0 21).bind fun (r14:Bool) =>
  if r14 = true then
   (iI r13 0 21).bind fun (r15:Bool) =>
   some r15
  else
   some false) (fun z8 =>
 some false) r6
def i7 (a0:Int) (a1:aA):Option (Bool) :=
 (at? a1.Orders a0).bind fun (x1:aG) =>
 (qD x1).bind fun (r2:Bool) =>
 some r2
def lB (a0:List ByteArray) (a2:aA) (p1:Int):Option ((Int) ⊕ (Unit ⊕ Int)) :=
 if decide (p1 < (a0.length:Int)) = true then
  (iN a0 p1).bind fun (r2:Int) =>
  if (r2 != 0) = true then
   some (.inr (.inr (r2)))
  else
   (i7 p1 a2).bind fun (r3:Bool) =>
   if (!(r3)) = true then
    some (.inr (.inr (1)))
   else
    some (.inl (IntKind.wrap .i64 (p1 + 1)))
 else
  some (.inr (.inl ()))
def AP (a0:List ByteArray) (a2:aA) (p1:Int):Option (Unit ⊕ Int) :=
 b8 (fun (w:Int)=>lB a0 a2 w) p1
def mU (a0:List ByteArray) (a1:Int) (a2:aA):Option (Int) :=
 if decide ((a0.length:Int) > a1) = true then
  some 6
 else
  (AP a0 a2 0).bind fun (r5:Unit ⊕ Int)=>Sum.elim (fun z6 =>
  some 0) (fun z7 =>
  some z7) r5
def dR (a0:aA) (p1:Int) (x2:aW) (p5:Int):Option ((Int) ⊕ (Unit ⊕ Unit)) :=
 if decide (p5 < ((n7 a0.Usances 0 p1).length:Int)) = true then
  (at? (n7 a0.Usances 0 p1) p5).bind fun (x6:aW) =>
  if (x6.From == x2.From) = true then
   if (x6.To == x2.To) = true then
    some (.inr (.inr (())))
   else
    some (.inl (IntKind.wrap .i64 (p5 + 1)))
  else
   some (.inl (IntKind.wrap .i64 (p5 + 1)))
 else
  some (.inr (.inl ()))
def pS (a0:aA) (p1:Int) (x2:aW) (p5:Int):Option (Unit ⊕ Unit) :=
 b8 (fun (w:Int)=>dR a0 p1 x2 w) p5
def dQ (a0:aA) (p1:Int):Option ((Int) ⊕ (Unit ⊕ Int)) :=
 if decide (p1 < (a0.Usances.length:Int)) = true then
  (at? a0.Usances p1).bind fun (x2:aW) =>
  (iO x2.From (a0.Cities.length:Int)).bind fun (r3:Bool) =>
  if (!(r3)) = true then
   some (.inr (.inr (1)))
  else
   (iO x2.To (a0.Cities.length:Int)).bind fun (r4:Bool) =>
   if (!(r4)) = true then
    some (.inr (.inr (1)))
   else
    if decide (x2.Days < 1) = true then
     some (.inr (.inr (1)))
    else
     if decide (x2.Days > 20000) = true then
      some (.inr (.inr (1)))
     else
      if B6 a0.Usances.length 0 p1 then
       (pS a0 p1 x2 0).bind fun (r7:Unit ⊕ Unit)=>Sum.elim (fun z8 =>
       some (.inl (IntKind.wrap .i64 (p1 + 1)))) (fun z9 =>
       some (.inr (.inr (5)))) r7
      else none
 else
  some (.inr (.inl ()))
def uT (a0:aA) (p1:Int):Option (Unit ⊕ Int) :=
 b8 (fun (w:Int)=>dQ a0 w) p1
def mY (a0:aA):Option (Int) :=
 if decide ((a0.Usances.length:Int) > 100) = true then
  some 6
 else
  (uT a0 0).bind fun (r11:Unit ⊕ Int)=>Sum.elim (fun z12 =>
  some 0) (fun z13 =>
  some z13) r11
def gO (a0:aA) (p1:Int):Option ((Int) ⊕ (Unit ⊕ Unit)) :=
 if decide (p1 < (a0.Rates.length:Int)) = true then
  (at? a0.Rates p1).bind fun (x2:bV) =>
  (iO x2.From (a0.Currencies.length:Int)).bind fun (r3:Bool) =>
  if (!(r3)) = true then
   some (.inr (.inr (())))
  else
   (iO x2.To (a0.Currencies.length:Int)).bind fun (r4:Bool) =>
   if (!(r4)) = true then
    some (.inr (.inr (())))
   else
    if (x2.From == x2.To) = true then
     some (.inr (.inr (())))
    else
     (iO (IntKind.wrap .i64 (x2.Num - 1)) 1073741824).bind fun (r5:Bool) =>
     if (!(r5)) = true then
      some (.inr (.inr (())))
     else
      (iO (IntKind.wrap .i64 (x2.Den - 1)) 1073741824).bind fun (r6:Bool) =>
      if (!(r6)) = true then
       some (.inr (.inr (())))
      else
       (iO x2.Since 100001).bind fun (r7:Bool) =>
       if (!(r7)) = true then
        some (.inr (.inr (())))
       else
        some (.inl (IntKind.wrap .i64 (p1 + 1)))
 else
  some (.inr (.inl ()))
def vI (a0:aA) (p1:Int):Option (Unit ⊕ Unit) :=
 b8 (fun (w:Int)=>gO a0 w) p1
def gL (a0:aA) (p11:Int):Option ((Int) ⊕ (Unit ⊕ Unit)) :=
 if decide (p11 < (a0.Halts.length:Int)) = true then
  (at? a0.Halts p11).bind fun (x12:c9) =>
  (iO x12.Order (a0.Orders.length:Int)).bind fun (r13:Bool) =>
  if (!(r13)) = true then
   some (.inr (.inr (())))
  else
   if decide (x12.From < 0) = true then
    some (.inr (.inr (())))
   else
    if decide (x12.From > x12.To) = true then
     some (.inr (.inr (())))
    else
     if decide (x12.To > 100000) = true then
      some (.inr (.inr (())))
     else
      some (.inl (IntKind.wrap .i64 (p11 + 1)))
 else
  some (.inr (.inl ()))
def vA (a0:aA) (p11:Int):Option (Unit ⊕ Unit) :=
 b8 (fun (w:Int)=>gL a0 w) p11
def sL (a0:aA):Option (Int) :=
 if decide ((a0.Rates.length:Int) > 100) = true then
  some 6
 else
  (vI a0 0).bind fun (r8:Unit ⊕ Unit)=>Sum.elim (fun z9 =>
  if decide ((a0.Halts.length:Int) > 20) = true then
    some 6
   else
    (vA a0 0).bind fun (r14:Unit ⊕ Unit)=>Sum.elim (fun z15 =>
    some 0) (fun z16 =>
    some 1) r14) (fun z10 =>
  some 1) r8
def fO (a0:aA) (r1:(List ByteArray) × (List ByteArray) × (List ByteArray)) (p4:Int):Option ((Int) ⊕ (Unit ⊕ Unit)) :=
 if decide (p4 < (a0.Groups.length:Int)) = true then
  (at? a0.Groups p4).bind fun (x5:bU) =>
  (iO x5.Grade 10).bind fun (r6:Bool) =>
  if (!(r6)) = true then
   some (.inr (.inr (())))
  else
   some (.inl (IntKind.wrap .i64 (p4 + 1)))
 else
  some (.inr (.inl ()))
def tP (a0:aA) (r1:(List ByteArray) × (List ByteArray) × (List ByteArray)) (p4:Int):Option (Unit ⊕ Unit) :=
 b8 (fun (w:Int)=>fO a0 r1 w) p4
def iL (a0:aA):Option (Int) :=
 (vN a0).bind fun (r1:(List ByteArray) × (List ByteArray) × (List ByteArray)) =>
 (mQ a0.Currencies 8).bind fun (r2:Int) =>
 if (r2 != 0) = true then
  some r2
 else
  (mR r1.1 40 a0).bind fun (r3:Int) =>
  if (r3 != 0) = true then
   some r3
  else
   if decide ((a0.Groups.length:Int) > 20) = true then
    some 6
   else
    (tP a0 r1 0).bind fun (r7:Unit ⊕ Unit)=>Sum.elim (fun z8 =>
    (mX r1.2.1 200 a0).bind fun (r10:Int) =>
     if (r10 != 0) = true then
      some r10
     else
      (mU r1.2.2 20 a0).bind fun (r11:Int) =>
      if (r11 != 0) = true then
       some r11
      else
       (mY a0).bind fun (r12:Int) =>
       if (r12 != 0) = true then
        some r12
       else
        (sL a0).bind fun (r13:Int) =>
        some r13) (fun z9 =>
    some 1) r7
def jK (a0:aG) (a1 p1:Int):Option ((Int) ⊕ (Unit ⊕ (Int × Bool))) :=
 if decide (p1 < (a0.Choices.length:Int)) = true then
  (at? a0.Choices p1).bind fun (x2:aM) =>
  if (x2.Ask == a1) = true then
   if (x2.By != 0) = true then
    some (.inr (.inr ((x2.By,x2.Whole))))
   else
    some (.inl (IntKind.wrap .i64 (p1 + 1)))
  else
   some (.inl (IntKind.wrap .i64 (p1 + 1)))
 else
  some (.inr (.inl ()))
def vW (a0:aG) (a1 p1:Int):Option (Unit ⊕ (Int × Bool)) :=
 b8 (fun (w:Int)=>jK a0 a1 w) p1
def oM (a0:aG) (a1:Int):Option (Int × Bool) :=
 (vW a0 a1 0).bind fun (r5:Unit ⊕ (Int × Bool))=>Sum.elim (fun z6 =>
 some (0,false)) (fun z7 =>
 some (z7.1,z7.2)) r5
def aF (a0:List Int):Option ((List Int)):=if a0.length * 8 <= 140737488355328 then some a0 else none
def pT (a0:a8) (a1:Int):Option (Bool) :=
 some (a0.Ask == a1)
def bB (a0:List a8) (a1 p1:Int):Option ((Int) ⊕ (Unit ⊕ Int)) :=
 if decide (p1 < (a0.length:Int)) = true then
  (at? a0 p1).bind fun (x2:a8) =>
  (pT x2 a1).bind fun (r3:Bool) =>
  if r3 = true then
   some (.inr (.inr (p1)))
  else
   some (.inl (IntKind.wrap .i64 (p1 + 1)))
 else
  some (.inr (.inl ()))
def dG (a0:List a8) (a1 p1:Int):Option (Unit ⊕ Int) :=
 b8 (fun (w:Int)=>bB a0 a1 w) p1
def cA (a0:List a8) (a1:Int):Option (Int) :=
 (dG a0 a1 0).bind fun (r5:Unit ⊕ Int)=>Sum.elim (fun z6 =>
 some (-1)) (fun z7 =>
 some z7) r5
def bT (a0:List a8) (a1:Int):Option (Bool) :=
 (cA a0 a1).bind fun (r1:Int) =>
 some (decide (r1 ≥ 0))
def gA (a0:aG) (a1:Int):Option (Bool) :=
 (bT a0.Rules a1).bind fun (r1:Bool) =>
 some r1
def dO (a0:List Int) (a1 p1:Int):Option ((Int) ⊕ (Unit ⊕ Int)) :=
 if decide (p1 < (a0.length:Int)) = true then
  (at? a0 p1).bind fun (x2:Int) =>
  if (a1 == x2) = true then
   some (.inr (.inr (p1)))
  else
   some (.inl (IntKind.wrap .i64 (p1 + 1)))
 else
  some (.inr (.inl ()))
def mP (a0:List Int) (a1 p1:Int):Option (Unit ⊕ Int) :=
 b8 (fun (w:Int)=>dO a0 a1 w) p1
def lY (a0:List Int) (a1:Int):Option (Int) :=
 (mP a0 a1 0).bind fun (r4:Unit ⊕ Int)=>Sum.elim (fun z5 =>
 some (-1)) (fun z6 =>
 some z6) r4
def b7 (a0:List Int) (a1:Int):Option (Bool) :=
 (lY a0 a1).bind fun (r1:Int) =>
 some (decide (r1 ≥ 0))
def o0 (a0:Int):Option (Bool) :=
 some (a0 != a0)
def oQ (a0 a1:Int):Option (Int) :=
 (o0 a0).bind fun (r1:Bool) =>
 (o0 a1).bind fun (r2:Bool) =>
 if r1 = true then
  if r2 = true then
   some 0
  else
   some (-1)
 else
  if r2 = true then
   some 1
  else
   if decide (a0 < a1) = true then
    some (-1)
   else
    if decide (a0 > a1) = true then
     some 1
    else
     some 0
def bN (a0 a1:List Int) (p1:Int):Option ((Int) ⊕ (Unit ⊕ Int)) :=
 if decide (p1 < (a0.length:Int)) = true then
  (at? a0 p1).bind fun (x2:Int) =>
  if decide (p1 ≥ (a1.length:Int)) = true then
   some (.inr (.inr (1)))
  else
   (at? a1 p1).bind fun (x3:Int) =>
   (oQ x2 x3).bind fun (r4:Int) =>
   if (r4 != 0) = true then
    some (.inr (.inr (r4)))
   else
    some (.inl (IntKind.wrap .i64 (p1 + 1)))
 else
  some (.inr (.inl ()))
def j8 (a0 a1:List Int) (p1:Int):Option (Unit ⊕ Int) :=
 b8 (fun (w:Int)=>bN a0 a1 w) p1
def fJ (a0 a1:List Int):Option (Int) :=
 (j8 a0 a1 0).bind fun (r6:Unit ⊕ Int)=>Sum.elim (fun z7 =>
 if decide ((a0.length:Int) < (a1.length:Int)) = true then
   some (-1)
  else
   some 0) (fun z8 =>
 some z8) r6
def bC (a0 a1:aB):Option (Bool) :=
 if ((a0.Path.length:Int) != (a1.Path.length:Int)) = true then
  some (decide ((a0.Path.length:Int) < (a1.Path.length:Int)))
 else
  (fJ a0.Path a1.Path).bind fun (r1:Int) =>
  if (r1 != 0) = true then
   some (decide (r1 < 0))
  else
   (fJ a0.Places a1.Places).bind fun (r2:Int) =>
   some (decide (r2 < 0))
def tI (a1 a2:Int) (r4 r5:(List Int)) (p9:Int) (p10:List Int):Option ((Int × (List Int)) ⊕ ((List Int))) :=
 if decide (p9 < (r4.length:Int)) = true then
  if 0 <= p9 ∧ p9.toNat < p10.length then
   (p10[p9.toNat]?).bind fun (x11:Int) =>
   if 0 <= p9 ∧ p9.toNat < p10.length then
    (p10[p9.toNat]?).bind fun (x12:Int) =>
    some (.inl (IntKind.wrap .i64 (p9 + 1),p10.set p9.toNat (if x11 > 0 then x11 else 0)))
   else none
  else none
 else
  some (.inr (p10))
def rM (a1 a2:Int) (r4 r5:(List Int)) (p9:Int) (p10:List Int):Option ((List Int)) :=
 b8 (fun (w:Int × (List Int))=>tI a1 a2 r4 r5 w.1 w.2) (p9,p10)
def sQ (a0:aA) (a1 a2 p16:Int) (p17 p18:Option aB) (p19 p20:List Int) (r23 r24:(List Int)) (r3:Int × Bool) (x1 x15 p28:Int) (p29:List Int):Option ((Int × (List Int)) ⊕ ((List Int))) :=
 if decide (p28 < (r23.length:Int)) = true then
  if 0 <= p28 ∧ p28.toNat < p29.length then
   (p29[p28.toNat]?).bind fun (x30:Int) =>
   if 0 <= p28 ∧ p28.toNat < p29.length then
    (p29[p28.toNat]?).bind fun (x31:Int) =>
    some (.inl (IntKind.wrap .i64 (p28 + 1),p29.set p28.toNat (if x30 > 0 then x30 else 0)))
   else none
  else none
 else
  some (.inr (p29))
def rW (a0:aA) (a1 a2 p16:Int) (p17 p18:Option aB) (p19 p20:List Int) (r23 r24:(List Int)) (r3:Int × Bool) (x1 x15 p28:Int) (p29:List Int):Option ((List Int)) :=
 b8 (fun (w:Int × (List Int))=>sQ a0 a1 a2 p16 p17 p18 p19 p20 r23 r24 r3 x1 x15 w.1 w.2) (p28,p29)
def sN (a0:aA) (a1 a2 p16:Int) (p17 p18:Option aB) (p19 p20:List Int) (r3:Int × Bool) (r40 r41:(List Int)) (x1 x15 p45:Int) (p46:List Int):Option ((Int × (List Int)) ⊕ ((List Int))) :=
 if decide (p45 < (r40.length:Int)) = true then
  if 0 <= p45 ∧ p45.toNat < p46.length then
   (p46[p45.toNat]?).bind fun (x47:Int) =>
   if 0 <= p45 ∧ p45.toNat < p46.length then
    (p46[p45.toNat]?).bind fun (x48:Int) =>
    some (.inl (IntKind.wrap .i64 (p45 + 1),p46.set p45.toNat (if x47 > 0 then x47 else 0)))
   else none
  else none
 else
  some (.inr (p46))
def sC (a0:aA) (a1 a2 p16:Int) (p17 p18:Option aB) (p19 p20:List Int) (r3:Int × Bool) (r40 r41:(List Int)) (x1 x15 p45:Int) (p46:List Int):Option ((List Int)) :=
 b8 (fun (w:Int × (List Int))=>sN a0 a1 a2 p16 p17 p18 p19 p20 r3 r40 r41 x1 x15 w.1 w.2) (p45,p46)
def s8 (a0:aA) (a1 a2 p16 p54:Int) (p55 p56:Option aB) (p57 p58:List Int) (r3 r39:Int × Bool) (r61 r62:(List Int)) (x1 x15 x37 x53 p66:Int) (p67:List Int):Option ((Int × (List Int)) ⊕ ((List Int))) :=
 if decide (p66 < (r61.length:Int)) = true then
  if 0 <= p66 ∧ p66.toNat < p67.length then
   (p67[p66.toNat]?).bind fun (x68:Int) =>
   if 0 <= p66 ∧ p66.toNat < p67.length then
    (p67[p66.toNat]?).bind fun (x69:Int) =>
    some (.inl (IntKind.wrap .i64 (p66 + 1),p67.set p66.toNat (if x68 > 0 then x68 else 0)))
   else none
  else none
 else
  some (.inr (p67))
def rZ (a0:aA) (a1 a2 p16 p54:Int) (p55 p56:Option aB) (p57 p58:List Int) (r3 r39:Int × Bool) (r61 r62:(List Int)) (x1 x15 x37 x53 p66:Int) (p67:List Int):Option ((List Int)) :=
 b8 (fun (w:Int × (List Int))=>s8 a0 a1 a2 p16 p54 p55 p56 p57 p58 r3 r39 r61 r62 x1 x15 x37 x53 w.1 w.2) (p66,p67)
def tD (a0:aA) (a1 a2 p16 p54:Int) (p55 p56:Option aB) (p57 p58:List Int) (r3 r39:Int × Bool) (r78 r79:(List Int)) (x1 x15 x37 x53 p83:Int) (p84:List Int):Option ((Int × (List Int)) ⊕ ((List Int))) :=
 if decide (p83 < (r78.length:Int)) = true then
  if 0 <= p83 ∧ p83.toNat < p84.length then
   (p84[p83.toNat]?).bind fun (x85:Int) =>
   if 0 <= p83 ∧ p83.toNat < p84.length then
    (p84[p83.toNat]?).bind fun (x86:Int) =>
    some (.inl (IntKind.wrap .i64 (p83 + 1),p84.set p83.toNat (if x85 > 0 then x85 else 0)))
   else none
  else none
 else
  some (.inr (p84))
def rS (a0:aA) (a1 a2 p16 p54:Int) (p55 p56:Option aB) (p57 p58:List Int) (r3 r39:Int × Bool) (r78 r79:(List Int)) (x1 x15 x37 x53 p83:Int) (p84:List Int):Option ((List Int)) :=
 b8 (fun (w:Int × (List Int))=>tD a0 a1 a2 p16 p54 p55 p56 p57 p58 r3 r39 r78 r79 x1 x15 x37 x53 w.1 w.2) (p83,p84)
def sS (a0:aA) (a1 a2 p16 p54 p92:Int) (p93 p94:Option aB) (p95 p96:List Int) (r100:(List Int)) (r3 r39 r77:Int × Bool) (r99:(List Int)) (x1 x15 x37 x53 x75 x91 p104:Int) (p105:List Int):Option ((Int × (List Int)) ⊕ ((List Int))) :=
 if decide (p104 < (r99.length:Int)) = true then
  if 0 <= p104 ∧ p104.toNat < p105.length then
   (p105[p104.toNat]?).bind fun (x106:Int) =>
   if 0 <= p104 ∧ p104.toNat < p105.length then
    (p105[p104.toNat]?).bind fun (x107:Int) =>
    some (.inl (IntKind.wrap .i64 (p104 + 1),p105.set p104.toNat (if x106 > 0 then x106 else 0)))
   else none
  else none
 else
  some (.inr (p105))
def sA (a0:aA) (a1 a2 p16 p54 p92:Int) (p93 p94:Option aB) (p95 p96:List Int) (r100:(List Int)) (r3 r39 r77:Int × Bool) (r99:(List Int)) (x1 x15 x37 x53 x75 x91 p104:Int) (p105:List Int):Option ((List Int)) :=
 b8 (fun (w:Int × (List Int))=>sS a0 a1 a2 p16 p54 p92 p93 p94 p95 p96 r100 r3 r39 r77 r99 x1 x15 x37 x53 x75 x91 w.1 w.2) (p104,p105)
def s9 (a0:aA) (a1 a2:Int) (p117 p118:List Int) (p16 p54 p92:Int) (p93 p94:Option aB) (p95 p96:List Int) (r3 r39 r77:Int × Bool) (x1 x15 x37 x53 x75 x91 p122:Int) (p123:List Int):Option ((Int × (List Int)) ⊕ ((List Int))) :=
 if decide (p122 < (p117.length:Int)) = true then
  if 0 <= p122 ∧ p122.toNat < p123.length then
   (p123[p122.toNat]?).bind fun (x124:Int) =>
   if 0 <= p122 ∧ p122.toNat < p123.length then
    (p123[p122.toNat]?).bind fun (x125:Int) =>
    some (.inl (IntKind.wrap .i64 (p122 + 1),p123.set p122.toNat (if x124 > 0 then x124 else 0)))
   else none
  else none
 else
  some (.inr (p123))
def rL (a0:aA) (a1 a2:Int) (p117 p118:List Int) (p16 p54 p92:Int) (p93 p94:Option aB) (p95 p96:List Int) (r3 r39 r77:Int × Bool) (x1 x15 x37 x53 x75 x91 p122:Int) (p123:List Int):Option ((List Int)) :=
 b8 (fun (w:Int × (List Int))=>s9 a0 a1 a2 p117 p118 p16 p54 p92 p93 p94 p95 p96 r3 r39 r77 x1 x15 x37 x53 x75 x91 w.1 w.2) (p122,p123)
def vO (a0:aA) (a1 a2:Int) (p117 p118:List Int) (p16 p54 p92:Int) (p93 p94:Option aB) (p95 p96:List Int) (r3 r39 r77:Int × Bool) (x1 x15 x37 x53 x75 x91:Int):Option ((Option aB)) :=
 (rL a0 a1 a2 p117 p118 p16 p54 p92 p93 p94 p95 p96 r3 r39 r77 x1 x15 x37 x53 x75 x91 0 p117).bind fun (r127:(List Int)) =>
 if p94.isNone = true then
  some (some (aB.mk 1 a1 a2 r127 p118))
 else
  (p94).bind fun (x128:aB) =>
  (bC (aB.mk 1 a1 a2 r127 p118) x128).bind fun (r129:Bool) =>
  if r129 = true then
   some (some (aB.mk 1 a1 a2 r127 p118))
  else
   some (p94)
def sZ (a0:aA) (a1 a2:Int) (p117 p118:List Int) (p16 p54 p92:Int) (p93 p94:Option aB) (p95 p96:List Int) (r3 r39 r77:Int × Bool) (x1 x15 x37 x53 x75 x91 p132:Int) (p133:List Int):Option ((Int × (List Int)) ⊕ ((List Int))) :=
 if decide (p132 < (p117.length:Int)) = true then
  if 0 <= p132 ∧ p132.toNat < p133.length then
   (p133[p132.toNat]?).bind fun (x134:Int) =>
   if 0 <= p132 ∧ p132.toNat < p133.length then
    (p133[p132.toNat]?).bind fun (x135:Int) =>
    some (.inl (IntKind.wrap .i64 (p132 + 1),p133.set p132.toNat (if x134 > 0 then x134 else 0)))
   else none
  else none
 else
  some (.inr (p133))
def rV (a0:aA) (a1 a2:Int) (p117 p118:List Int) (p16 p54 p92:Int) (p93 p94:Option aB) (p95 p96:List Int) (r3 r39 r77:Int × Bool) (x1 x15 x37 x53 x75 x91 p132:Int) (p133:List Int):Option ((List Int)) :=
 b8 (fun (w:Int × (List Int))=>sZ a0 a1 a2 p117 p118 p16 p54 p92 p93 p94 p95 p96 r3 r39 r77 x1 x15 x37 x53 x75 x91 w.1 w.2) (p132,p133)
def uJ (a0:aA) (a1 a2:Int) (p117 p118:List Int) (p16 p54 p92:Int) (p93 p94:Option aB) (p95 p96:List Int) (r3 r39 r77:Int × Bool) (x1 x15 x37 x53 x75 x91:Int):Option ((Option aB)) :=
 (rV a0 a1 a2 p117 p118 p16 p54 p92 p93 p94 p95 p96 r3 r39 r77 x1 x15 x37 x53 x75 x91 0 p117).bind fun (r137:(List Int)) =>
 if p93.isNone = true then
  some (some (aB.mk 0 a1 a2 r137 p118))
 else
  (p93).bind fun (x138:aB) =>
  (bC (aB.mk 0 a1 a2 r137 p118) x138).bind fun (r139:Bool) =>
  if r139 = true then
   some (some (aB.mk 0 a1 a2 r137 p118))
  else
   some (p93)
def g9 (a0:aA) (a1 a2 p16 p54 p92:Int) (p93 p94:Option aB) (p95 p96:List Int) (r3 r39 r77:Int × Bool) (x1 x15 x37 x53 x75 x91:Int) (p116:Bool) (p117 p118:List Int):Option (((Option aB) × (Option aB)) ⊕ Unit) :=
 if p116 = true then
  (vO a0 a1 a2 p117 p118 p16 p54 p92 p93 p94 p95 p96 r3 r39 r77 x1 x15 x37 x53 x75 x91).bind fun (r131:(Option aB)) =>
  some (.inl (p93,r131))
 else
  if 0 <= (IntKind.wrap .i64 (((p96 ++ [p92]).length:Int) - 1)) ∧ (IntKind.wrap .i64 (((p96 ++ [p92]).length:Int) - 1)).toNat < (p96 ++ [p92]).length then
   ((p96 ++ [p92])[(IntKind.wrap .i64 (((p96 ++ [p92]).length:Int) - 1)).toNat]?).bind fun (x119:Int) =>
   (at? a0.Orders x119).bind fun (x120:aG) =>
   (gA x120 a2).bind fun (r121:Bool) =>
   if r121 = true then
    some (.inr (()))
   else
    (uJ a0 a1 a2 p117 p118 p16 p54 p92 p93 p94 p95 p96 r3 r39 r77 x1 x15 x37 x53 x75 x91).bind fun (r141:(Option aB)) =>
    some (.inl (r141,p94))
  else none
def nG (a0:aA) (a1 a2 p16 p54 p92:Int) (p93 p94:Option aB) (p95 p96:List Int) (r3 r39 r77:Int × Bool) (x1 x15 x37 x53 x75 x91:Int):Option ((Option aB) × (Option aB)) :=
 if r77.2 = true then
  (at? a0.Orders p92).bind fun (x113:aG) =>
  (aF (p95.set r77.1.toNat p92)).bind fun (r114:(List Int)) =>
  (aF (p96 ++ [p92])).bind fun (r115:(List Int)) =>
  (g9 a0 a1 a2 p16 p54 p92 p93 p94 p95 p96 r3 r39 r77 x1 x15 x37 x53 x75 x91 (!(x113.Accepts)) r114 r115).bind fun (r144:((Option aB) × (Option aB)) ⊕ Unit)=>Sum.elim (fun z145 =>
  some ((z145.1,z145.2))) (fun z146 =>
  some ((p93,p94))) r144
 else
  (aF (p95.set r77.1.toNat p92)).bind fun (r147:(List Int)) =>
  (aF (p96 ++ [p92])).bind fun (r148:(List Int)) =>
  (g9 a0 a1 a2 p16 p54 p92 p93 p94 p95 p96 r3 r39 r77 x1 x15 x37 x53 x75 x91 false r147 r148).bind fun (r149:((Option aB) × (Option aB)) ⊕ Unit)=>Sum.elim (fun z150 =>
  some ((z150.1,z150.2))) (fun z151 =>
  some ((p93,p94))) r149
def nI (a0:aA) (a1 a2 p16 p54 p92:Int) (p95 p96:List Int) (r3 r39 r77:Int × Bool) (x1 x15 x37 x53 x75 x91:Int) (p156 p157:Option aB):Option (Unit) :=
 if 0 <= (IntKind.wrap .i64 (((p96 ++ [p92]).length:Int) - 1)) ∧ (IntKind.wrap .i64 (((p96 ++ [p92]).length:Int) - 1)).toNat <= (p96 ++ [p92]).length then
  some (())
 else none
def eC (a0:aA) (a1 a2 p16 p54 p92:Int) (p95:List Int) (r3 r39 r77:Int × Bool) (x1 x15 x37 x53 x75 x91:Int) (p160 p161:Option aB) (p162:List Int):Option ((List Int)) :=
 if (x91 == (-1)) = true then
  if 0 <= r77.1 ∧ r77.1.toNat < (p95.set r77.1.toNat p92).length then
   ((p95.set r77.1.toNat p92)[r77.1.toNat]?).bind fun (x163:Int) =>
   some ((p95.set r77.1.toNat p92).set r77.1.toNat (-1))
  else none
 else
  some (p95.set r77.1.toNat p92)
def nK (a0:aA) (a1 a2 p16 p54 p92:Int) (p93 p94:Option aB) (p95 p96:List Int) (r3 r39 r77:Int × Bool) (x1 x15 x37 x53 x75 x91:Int):Option ((Option aB) × (Option aB) × (List Int) × (List Int)) :=
 if 0 <= r77.1 ∧ r77.1.toNat < p95.length then
  (p95[r77.1.toNat]?).bind fun (x98:Int) =>
  if (p92 == x75) = true then
   (aF (p95.set r77.1.toNat p92)).bind fun (r99:(List Int)) =>
   (aF p96).bind fun (r100:(List Int)) =>
   if 0 <= (IntKind.wrap .i64 ((p96.length:Int) - 1)) ∧ (IntKind.wrap .i64 ((p96.length:Int) - 1)).toNat < p96.length then
    (p96[(IntKind.wrap .i64 ((p96.length:Int) - 1)).toNat]?).bind fun (x101:Int) =>
    (at? a0.Orders x101).bind fun (x102:aG) =>
    (gA x102 a2).bind fun (r103:Bool) =>
    if r103 = true then
     (eC a0 a1 a2 p16 p54 p92 p95 r3 r39 r77 x1 x15 x37 x53 x75 x91 p93 p94 p96).bind fun (r165:(List Int)) =>
     some ((p93,p94,r165,p96))
    else
     (sA a0 a1 a2 p16 p54 p92 p93 p94 p95 p96 r100 r3 r39 r77 r99 x1 x15 x37 x53 x75 x91 0 r99).bind fun (r109:(List Int)) =>
     if p93.isNone = true then
      (eC a0 a1 a2 p16 p54 p92 p95 r3 r39 r77 x1 x15 x37 x53 x75 x91 (some (aB.mk 0 a1 a2 r109 r100)) p94 p96).bind fun (r166:(List Int)) =>
      some (((some (aB.mk 0 a1 a2 r109 r100)),p94,r166,p96))
     else
      (p93).bind fun (x110:aB) =>
      (bC (aB.mk 0 a1 a2 r109 r100) x110).bind fun (r111:Bool) =>
      if r111 = true then
       (eC a0 a1 a2 p16 p54 p92 p95 r3 r39 r77 x1 x15 x37 x53 x75 x91 (some (aB.mk 0 a1 a2 r109 r100)) p94 p96).bind fun (r167:(List Int)) =>
       some (((some (aB.mk 0 a1 a2 r109 r100)),p94,r167,p96))
      else
       (eC a0 a1 a2 p16 p54 p92 p95 r3 r39 r77 x1 x15 x37 x53 x75 x91 p93 p94 p96).bind fun (r168:(List Int)) =>
       some ((p93,p94,r168,p96))
   else none
  else
   (b7 p96 p92).bind fun (r112:Bool) =>
   if (p96.length + 1) * 8 <= 140737488355328 then
    if r77.2 = true then
     if (!(r112)) = true then
      none
     else
      (nG a0 a1 a2 p16 p54 p92 p93 p94 p95 p96 r3 r39 r77 x1 x15 x37 x53 x75 x91).bind fun (r154:(Option aB) × (Option aB)) =>
      (nI a0 a1 a2 p16 p54 p92 p95 p96 r3 r39 r77 x1 x15 x37 x53 x75 x91 r154.1 r154.2).bind fun (r158:Unit) =>
      (eC a0 a1 a2 p16 p54 p92 p95 r3 r39 r77 x1 x15 x37 x53 x75 x91 r154.1 r154.2 ((p96 ++ [p92]).take ((IntKind.wrap .i64 (((p96 ++ [p92]).length:Int) - 1)).toNat))).bind fun (r169:(List Int)) =>
      some ((r154.1,r154.2,r169,((p96 ++ [p92]).take ((IntKind.wrap .i64 (((p96 ++ [p92]).length:Int) - 1)).toNat))))
    else
     (nG a0 a1 a2 p16 p54 p92 p93 p94 p95 p96 r3 r39 r77 x1 x15 x37 x53 x75 x91).bind fun (r155:(Option aB) × (Option aB)) =>
     (nI a0 a1 a2 p16 p54 p92 p95 p96 r3 r39 r77 x1 x15 x37 x53 x75 x91 r155.1 r155.2).bind fun (r159:Unit) =>
     (eC a0 a1 a2 p16 p54 p92 p95 r3 r39 r77 x1 x15 x37 x53 x75 x91 r155.1 r155.2 ((p96 ++ [p92]).take ((IntKind.wrap .i64 (((p96 ++ [p92]).length:Int) - 1)).toNat))).bind fun (r170:(List Int)) =>
     some ((r155.1,r155.2,r170,((p96 ++ [p92]).take ((IntKind.wrap .i64 (((p96 ++ [p92]).length:Int) - 1)).toNat))))
   else none
 else none
def iX (a0:aA) (a1 a2 p16 p54:Int) (r3 r39 r77:Int × Bool) (x1 x15 x37 x53 x75 x91 p92:Int) (p93 p94:Option aB) (p95 p96:List Int):Option ((Int × (Option aB) × (Option aB) × (List Int) × (List Int)) ⊕ ((Option aB) × (Option aB) × (List Int) × (List Int))) :=
 if decide (p92 < (a0.Orders.length:Int)) = true then
  if (!(x91 == (-1))) = true then
   if 0 <= r77.1 ∧ r77.1.toNat < p95.length then
    (p95[r77.1.toNat]?).bind fun (x97:Int) =>
    if (x97 != p92) = true then
     some (.inl (IntKind.wrap .i64 (p92 + 1),p93,p94,p95,p96))
    else
     (nK a0 a1 a2 p16 p54 p92 p93 p94 p95 p96 r3 r39 r77 x1 x15 x37 x53 x75 x91).bind fun (r175:(Option aB) × (Option aB) × (List Int) × (List Int)) =>
     some (.inl (IntKind.wrap .i64 (p92 + 1),r175.1,r175.2.1,r175.2.2.1,r175.2.2.2))
   else none
  else
   (nK a0 a1 a2 p16 p54 p92 p93 p94 p95 p96 r3 r39 r77 x1 x15 x37 x53 x75 x91).bind fun (r176:(Option aB) × (Option aB) × (List Int) × (List Int)) =>
   some (.inl (IntKind.wrap .i64 (p92 + 1),r176.1,r176.2.1,r176.2.2.1,r176.2.2.2))
 else
  some (.inr ((p93,p94,p95,p96)))
def uB (a0:aA) (a1 a2 p16 p54:Int) (r3 r39 r77:Int × Bool) (x1 x15 x37 x53 x75 x91 p92:Int) (p93 p94:Option aB) (p95 p96:List Int):Option ((Option aB) × (Option aB) × (List Int) × (List Int)) :=
 b8 (fun (w:Int × (Option aB) × (Option aB) × (List Int) × (List Int))=>iX a0 a1 a2 p16 p54 r3 r39 r77 x1 x15 x37 x53 x75 x91 w.1 w.2.1 w.2.2.1 w.2.2.2.1 w.2.2.2.2) (p92,p93,p94,p95,p96)
def pX (a0:aA) (a1 a2 p16 p54:Int) (p55 p56:Option aB) (p57 p58:List Int) (r3 r39:Int × Bool) (x1 x15 x37 x53:Int):Option ((Option aB) × (Option aB) × (List Int) × (List Int)) :=
 if 0 <= (IntKind.wrap .i64 (((p58 ++ [p54]).length:Int) - 1)) ∧ (IntKind.wrap .i64 (((p58 ++ [p54]).length:Int) - 1)).toNat < (p58 ++ [p54]).length then
  ((p58 ++ [p54])[(IntKind.wrap .i64 (((p58 ++ [p54]).length:Int) - 1)).toNat]?).bind fun (x75:Int) =>
  (at? a0.Orders x75).bind fun (x76:aG) =>
  (oM x76 a2).bind fun (r77:Int × Bool) =>
  if (r77.1 == 0) = true then
   (aF (p57.set r39.1.toNat p54)).bind fun (r78:(List Int)) =>
   (aF (p58 ++ [p54])).bind fun (r79:(List Int)) =>
   if 0 <= (IntKind.wrap .i64 (((p58 ++ [p54]).length:Int) - 1)) ∧ (IntKind.wrap .i64 (((p58 ++ [p54]).length:Int) - 1)).toNat < (p58 ++ [p54]).length then
    ((p58 ++ [p54])[(IntKind.wrap .i64 (((p58 ++ [p54]).length:Int) - 1)).toNat]?).bind fun (x80:Int) =>
    (at? a0.Orders x80).bind fun (x81:aG) =>
    (gA x81 a2).bind fun (r82:Bool) =>
    if r82 = true then
     some ((p55,p56,p57.set r39.1.toNat p54,p58 ++ [p54]))
    else
     (rS a0 a1 a2 p16 p54 p55 p56 p57 p58 r3 r39 r78 r79 x1 x15 x37 x53 0 r78).bind fun (r88:(List Int)) =>
     if p55.isNone = true then
      some ((some (aB.mk 0 a1 a2 r88 r79),p56,p57.set r39.1.toNat p54,p58 ++ [p54]))
     else
      (p55).bind fun (x89:aB) =>
      (bC (aB.mk 0 a1 a2 r88 r79) x89).bind fun (r90:Bool) =>
      if r90 = true then
       some ((some (aB.mk 0 a1 a2 r88 r79),p56,p57.set r39.1.toNat p54,p58 ++ [p54]))
      else
       some ((p55,p56,p57.set r39.1.toNat p54,p58 ++ [p54]))
   else none
  else
   if 0 <= r77.1 ∧ r77.1.toNat < (p57.set r39.1.toNat p54).length then
    ((p57.set r39.1.toNat p54)[r77.1.toNat]?).bind fun (x91:Int) =>
    (uB a0 a1 a2 p16 p54 r3 r39 r77 x1 x15 x37 x53 x75 x91 0 p55 p56 (p57.set r39.1.toNat p54) (p58 ++ [p54])).bind fun (r181:(Option aB) × (Option aB) × (List Int) × (List Int)) =>
    some ((r181.1,r181.2.1,r181.2.2.1,r181.2.2.2))
   else none
 else none
def rF (a0:aA) (a1 a2 p16:Int) (p191 p192:List Int) (p54:Int) (p55 p56:Option aB) (p57 p58:List Int) (r3 r39:Int × Bool) (x1 x15 x37 x53 p196:Int) (p197:List Int):Option ((Int × (List Int)) ⊕ ((List Int))) :=
 if decide (p196 < (p191.length:Int)) = true then
  if 0 <= p196 ∧ p196.toNat < p197.length then
   (p197[p196.toNat]?).bind fun (x198:Int) =>
   if 0 <= p196 ∧ p196.toNat < p197.length then
    (p197[p196.toNat]?).bind fun (x199:Int) =>
    some (.inl (IntKind.wrap .i64 (p196 + 1),p197.set p196.toNat (if x198 > 0 then x198 else 0)))
   else none
  else none
 else
  some (.inr (p197))
def pY (a0:aA) (a1 a2 p16:Int) (p191 p192:List Int) (p54:Int) (p55 p56:Option aB) (p57 p58:List Int) (r3 r39:Int × Bool) (x1 x15 x37 x53 p196:Int) (p197:List Int):Option ((List Int)) :=
 b8 (fun (w:Int × (List Int))=>rF a0 a1 a2 p16 p191 p192 p54 p55 p56 p57 p58 r3 r39 x1 x15 x37 x53 w.1 w.2) (p196,p197)
def uN (a0:aA) (a1 a2 p16:Int) (p191 p192:List Int) (p54:Int) (p55 p56:Option aB) (p57 p58:List Int) (r3 r39:Int × Bool) (x1 x15 x37 x53:Int):Option ((Option aB)) :=
 (pY a0 a1 a2 p16 p191 p192 p54 p55 p56 p57 p58 r3 r39 x1 x15 x37 x53 0 p191).bind fun (r201:(List Int)) =>
 if p56.isNone = true then
  some (some (aB.mk 1 a1 a2 r201 p192))
 else
  (p56).bind fun (x202:aB) =>
  (bC (aB.mk 1 a1 a2 r201 p192) x202).bind fun (r203:Bool) =>
  if r203 = true then
   some (some (aB.mk 1 a1 a2 r201 p192))
  else
   some (p56)
def rI (a0:aA) (a1 a2 p16:Int) (p191 p192:List Int) (p54:Int) (p55 p56:Option aB) (p57 p58:List Int) (r3 r39:Int × Bool) (x1 x15 x37 x53 p206:Int) (p207:List Int):Option ((Int × (List Int)) ⊕ ((List Int))) :=
 if decide (p206 < (p191.length:Int)) = true then
  if 0 <= p206 ∧ p206.toNat < p207.length then
   (p207[p206.toNat]?).bind fun (x208:Int) =>
   if 0 <= p206 ∧ p206.toNat < p207.length then
    (p207[p206.toNat]?).bind fun (x209:Int) =>
    some (.inl (IntKind.wrap .i64 (p206 + 1),p207.set p206.toNat (if x208 > 0 then x208 else 0)))
   else none
  else none
 else
  some (.inr (p207))
def qE (a0:aA) (a1 a2 p16:Int) (p191 p192:List Int) (p54:Int) (p55 p56:Option aB) (p57 p58:List Int) (r3 r39:Int × Bool) (x1 x15 x37 x53 p206:Int) (p207:List Int):Option ((List Int)) :=
 b8 (fun (w:Int × (List Int))=>rI a0 a1 a2 p16 p191 p192 p54 p55 p56 p57 p58 r3 r39 x1 x15 x37 x53 w.1 w.2) (p206,p207)
def uD (a0:aA) (a1 a2 p16:Int) (p191 p192:List Int) (p54:Int) (p55 p56:Option aB) (p57 p58:List Int) (r3 r39:Int × Bool) (x1 x15 x37 x53:Int):Option ((Option aB)) :=
 (qE a0 a1 a2 p16 p191 p192 p54 p55 p56 p57 p58 r3 r39 x1 x15 x37 x53 0 p191).bind fun (r211:(List Int)) =>
 if p55.isNone = true then
  some (some (aB.mk 0 a1 a2 r211 p192))
 else
  (p55).bind fun (x212:aB) =>
  (bC (aB.mk 0 a1 a2 r211 p192) x212).bind fun (r213:Bool) =>
  if r213 = true then
   some (some (aB.mk 0 a1 a2 r211 p192))
  else
   some (p55)
def gX (a0:aA) (a1 a2 p16 p54:Int) (p55 p56:Option aB) (p57 p58:List Int) (r3 r39:Int × Bool) (x1 x15 x37 x53:Int) (p190:Bool) (p191 p192:List Int):Option (((Option aB) × (Option aB)) ⊕ Unit) :=
 if p190 = true then
  (uN a0 a1 a2 p16 p191 p192 p54 p55 p56 p57 p58 r3 r39 x1 x15 x37 x53).bind fun (r205:(Option aB)) =>
  some (.inl (p55,r205))
 else
  if 0 <= (IntKind.wrap .i64 (((p58 ++ [p54]).length:Int) - 1)) ∧ (IntKind.wrap .i64 (((p58 ++ [p54]).length:Int) - 1)).toNat < (p58 ++ [p54]).length then
   ((p58 ++ [p54])[(IntKind.wrap .i64 (((p58 ++ [p54]).length:Int) - 1)).toNat]?).bind fun (x193:Int) =>
   (at? a0.Orders x193).bind fun (x194:aG) =>
   (gA x194 a2).bind fun (r195:Bool) =>
   if r195 = true then
    some (.inr (()))
   else
    (uD a0 a1 a2 p16 p191 p192 p54 p55 p56 p57 p58 r3 r39 x1 x15 x37 x53).bind fun (r215:(Option aB)) =>
    some (.inl (r215,p56))
  else none
def m8 (a0:aA) (a1 a2 p16 p54:Int) (p55 p56:Option aB) (p57 p58:List Int) (r3 r39:Int × Bool) (x1 x15 x37 x53:Int):Option ((Option aB) × (Option aB)) :=
 if r39.2 = true then
  (at? a0.Orders p54).bind fun (x187:aG) =>
  (aF (p57.set r39.1.toNat p54)).bind fun (r188:(List Int)) =>
  (aF (p58 ++ [p54])).bind fun (r189:(List Int)) =>
  (gX a0 a1 a2 p16 p54 p55 p56 p57 p58 r3 r39 x1 x15 x37 x53 (!(x187.Accepts)) r188 r189).bind fun (r218:((Option aB) × (Option aB)) ⊕ Unit)=>Sum.elim (fun z219 =>
  some ((z219.1,z219.2))) (fun z220 =>
  some ((p55,p56))) r218
 else
  (aF (p57.set r39.1.toNat p54)).bind fun (r221:(List Int)) =>
  (aF (p58 ++ [p54])).bind fun (r222:(List Int)) =>
  (gX a0 a1 a2 p16 p54 p55 p56 p57 p58 r3 r39 x1 x15 x37 x53 false r221 r222).bind fun (r223:((Option aB) × (Option aB)) ⊕ Unit)=>Sum.elim (fun z224 =>
  some ((z224.1,z224.2))) (fun z225 =>
  some ((p55,p56))) r223
def kP (a0:aA) (a1 a2 p16 p54:Int) (r3 r39:Int × Bool) (x1 x15 x37 x53:Int) (p230 p231:Option aB) (p232 p233:List Int):Option (Unit) :=
 if 0 <= (IntKind.wrap .i64 ((p233.length:Int) - 1)) ∧ (IntKind.wrap .i64 ((p233.length:Int) - 1)).toNat <= p233.length then
  some (())
 else none
def dF (a0:aA) (a1 a2 p16 p54:Int) (r3 r39:Int × Bool) (x1 x15 x37 x53:Int) (p237 p238:Option aB) (p239 p240:List Int):Option ((List Int)) :=
 if (x53 == (-1)) = true then
  if 0 <= r39.1 ∧ r39.1.toNat < p239.length then
   (p239[r39.1.toNat]?).bind fun (x241:Int) =>
   some (p239.set r39.1.toNat (-1))
  else none
 else
  some (p239)
def nJ (a0:aA) (a1 a2 p16 p54:Int) (p55 p56:Option aB) (p57 p58:List Int) (r3 r39:Int × Bool) (x1 x15 x37 x53:Int):Option ((Option aB) × (Option aB) × (List Int) × (List Int)) :=
 if 0 <= r39.1 ∧ r39.1.toNat < p57.length then
  (p57[r39.1.toNat]?).bind fun (x60:Int) =>
  if (p54 == x37) = true then
   (aF (p57.set r39.1.toNat p54)).bind fun (r61:(List Int)) =>
   (aF p58).bind fun (r62:(List Int)) =>
   if 0 <= (IntKind.wrap .i64 ((p58.length:Int) - 1)) ∧ (IntKind.wrap .i64 ((p58.length:Int) - 1)).toNat < p58.length then
    (p58[(IntKind.wrap .i64 ((p58.length:Int) - 1)).toNat]?).bind fun (x63:Int) =>
    (at? a0.Orders x63).bind fun (x64:aG) =>
    (gA x64 a2).bind fun (r65:Bool) =>
    if r65 = true then
     (dF a0 a1 a2 p16 p54 r3 r39 x1 x15 x37 x53 p55 p56 (p57.set r39.1.toNat p54) p58).bind fun (r243:(List Int)) =>
     some ((p55,p56,r243,p58))
    else
     (rZ a0 a1 a2 p16 p54 p55 p56 p57 p58 r3 r39 r61 r62 x1 x15 x37 x53 0 r61).bind fun (r71:(List Int)) =>
     if p55.isNone = true then
      (dF a0 a1 a2 p16 p54 r3 r39 x1 x15 x37 x53 (some (aB.mk 0 a1 a2 r71 r62)) p56 (p57.set r39.1.toNat p54) p58).bind fun (r244:(List Int)) =>
      some (((some (aB.mk 0 a1 a2 r71 r62)),p56,r244,p58))
     else
      (p55).bind fun (x72:aB) =>
      (bC (aB.mk 0 a1 a2 r71 r62) x72).bind fun (r73:Bool) =>
      if r73 = true then
       (dF a0 a1 a2 p16 p54 r3 r39 x1 x15 x37 x53 (some (aB.mk 0 a1 a2 r71 r62)) p56 (p57.set r39.1.toNat p54) p58).bind fun (r245:(List Int)) =>
       some (((some (aB.mk 0 a1 a2 r71 r62)),p56,r245,p58))
      else
       (dF a0 a1 a2 p16 p54 r3 r39 x1 x15 x37 x53 p55 p56 (p57.set r39.1.toNat p54) p58).bind fun (r246:(List Int)) =>
       some ((p55,p56,r246,p58))
   else none
  else
   (b7 p58 p54).bind fun (r74:Bool) =>
   if (p58.length + 1) * 8 <= 140737488355328 then
    if r39.2 = true then
     if (!(r74)) = true then
      (pX a0 a1 a2 p16 p54 p55 p56 p57 p58 r3 r39 x1 x15 x37 x53).bind fun (r186:(Option aB) × (Option aB) × (List Int) × (List Int)) =>
      (kP a0 a1 a2 p16 p54 r3 r39 x1 x15 x37 x53 r186.1 r186.2.1 r186.2.2.1 r186.2.2.2).bind fun (r234:Unit) =>
      (dF a0 a1 a2 p16 p54 r3 r39 x1 x15 x37 x53 r186.1 r186.2.1 r186.2.2.1 (r186.2.2.2.take ((IntKind.wrap .i64 ((r186.2.2.2.length:Int) - 1)).toNat))).bind fun (r247:(List Int)) =>
      some ((r186.1,r186.2.1,r247,(r186.2.2.2.take ((IntKind.wrap .i64 ((r186.2.2.2.length:Int) - 1)).toNat))))
     else
      (m8 a0 a1 a2 p16 p54 p55 p56 p57 p58 r3 r39 x1 x15 x37 x53).bind fun (r228:(Option aB) × (Option aB)) =>
      (kP a0 a1 a2 p16 p54 r3 r39 x1 x15 x37 x53 r228.1 r228.2 (p57.set r39.1.toNat p54) (p58 ++ [p54])).bind fun (r235:Unit) =>
      (dF a0 a1 a2 p16 p54 r3 r39 x1 x15 x37 x53 r228.1 r228.2 (p57.set r39.1.toNat p54) ((p58 ++ [p54]).take ((IntKind.wrap .i64 (((p58 ++ [p54]).length:Int) - 1)).toNat))).bind fun (r248:(List Int)) =>
      some ((r228.1,r228.2,r248,((p58 ++ [p54]).take ((IntKind.wrap .i64 (((p58 ++ [p54]).length:Int) - 1)).toNat))))
    else
     (m8 a0 a1 a2 p16 p54 p55 p56 p57 p58 r3 r39 x1 x15 x37 x53).bind fun (r229:(Option aB) × (Option aB)) =>
     (kP a0 a1 a2 p16 p54 r3 r39 x1 x15 x37 x53 r229.1 r229.2 (p57.set r39.1.toNat p54) (p58 ++ [p54])).bind fun (r236:Unit) =>
     (dF a0 a1 a2 p16 p54 r3 r39 x1 x15 x37 x53 r229.1 r229.2 (p57.set r39.1.toNat p54) ((p58 ++ [p54]).take ((IntKind.wrap .i64 (((p58 ++ [p54]).length:Int) - 1)).toNat))).bind fun (r249:(List Int)) =>
     some ((r229.1,r229.2,r249,((p58 ++ [p54]).take ((IntKind.wrap .i64 (((p58 ++ [p54]).length:Int) - 1)).toNat))))
   else none
 else none
def iS (a0:aA) (a1 a2 p16:Int) (r3 r39:Int × Bool) (x1 x15 x37 x53 p54:Int) (p55 p56:Option aB) (p57 p58:List Int):Option ((Int × (Option aB) × (Option aB) × (List Int) × (List Int)) ⊕ ((Option aB) × (Option aB) × (List Int) × (List Int))) :=
 if decide (p54 < (a0.Orders.length:Int)) = true then
  if (!(x53 == (-1))) = true then
   if 0 <= r39.1 ∧ r39.1.toNat < p57.length then
    (p57[r39.1.toNat]?).bind fun (x59:Int) =>
    if (x59 != p54) = true then
     some (.inl (IntKind.wrap .i64 (p54 + 1),p55,p56,p57,p58))
    else
     (nJ a0 a1 a2 p16 p54 p55 p56 p57 p58 r3 r39 x1 x15 x37 x53).bind fun (r254:(Option aB) × (Option aB) × (List Int) × (List Int)) =>
     some (.inl (IntKind.wrap .i64 (p54 + 1),r254.1,r254.2.1,r254.2.2.1,r254.2.2.2))
   else none
  else
   (nJ a0 a1 a2 p16 p54 p55 p56 p57 p58 r3 r39 x1 x15 x37 x53).bind fun (r255:(Option aB) × (Option aB) × (List Int) × (List Int)) =>
   some (.inl (IntKind.wrap .i64 (p54 + 1),r255.1,r255.2.1,r255.2.2.1,r255.2.2.2))
 else
  some (.inr ((p55,p56,p57,p58)))
def uR (a0:aA) (a1 a2 p16:Int) (r3 r39:Int × Bool) (x1 x15 x37 x53 p54:Int) (p55 p56:Option aB) (p57 p58:List Int):Option ((Option aB) × (Option aB) × (List Int) × (List Int)) :=
 b8 (fun (w:Int × (Option aB) × (Option aB) × (List Int) × (List Int))=>iS a0 a1 a2 p16 r3 r39 x1 x15 x37 x53 w.1 w.2.1 w.2.2.1 w.2.2.2.1 w.2.2.2.2) (p54,p55,p56,p57,p58)
def qB (a0:aA) (a1 a2 p16:Int) (p17 p18:Option aB) (p19 p20:List Int) (r3:Int × Bool) (x1 x15:Int):Option ((Option aB) × (Option aB) × (List Int) × (List Int)) :=
 if 0 <= (IntKind.wrap .i64 (((p20 ++ [p16]).length:Int) - 1)) ∧ (IntKind.wrap .i64 (((p20 ++ [p16]).length:Int) - 1)).toNat < (p20 ++ [p16]).length then
  ((p20 ++ [p16])[(IntKind.wrap .i64 (((p20 ++ [p16]).length:Int) - 1)).toNat]?).bind fun (x37:Int) =>
  (at? a0.Orders x37).bind fun (x38:aG) =>
  (oM x38 a2).bind fun (r39:Int × Bool) =>
  if (r39.1 == 0) = true then
   (aF (p19.set r3.1.toNat p16)).bind fun (r40:(List Int)) =>
   (aF (p20 ++ [p16])).bind fun (r41:(List Int)) =>
   if 0 <= (IntKind.wrap .i64 (((p20 ++ [p16]).length:Int) - 1)) ∧ (IntKind.wrap .i64 (((p20 ++ [p16]).length:Int) - 1)).toNat < (p20 ++ [p16]).length then
    ((p20 ++ [p16])[(IntKind.wrap .i64 (((p20 ++ [p16]).length:Int) - 1)).toNat]?).bind fun (x42:Int) =>
    (at? a0.Orders x42).bind fun (x43:aG) =>
    (gA x43 a2).bind fun (r44:Bool) =>
    if r44 = true then
     some ((p17,p18,p19.set r3.1.toNat p16,p20 ++ [p16]))
    else
     (sC a0 a1 a2 p16 p17 p18 p19 p20 r3 r40 r41 x1 x15 0 r40).bind fun (r50:(List Int)) =>
     if p17.isNone = true then
      some ((some (aB.mk 0 a1 a2 r50 r41),p18,p19.set r3.1.toNat p16,p20 ++ [p16]))
     else
      (p17).bind fun (x51:aB) =>
      (bC (aB.mk 0 a1 a2 r50 r41) x51).bind fun (r52:Bool) =>
      if r52 = true then
       some ((some (aB.mk 0 a1 a2 r50 r41),p18,p19.set r3.1.toNat p16,p20 ++ [p16]))
      else
       some ((p17,p18,p19.set r3.1.toNat p16,p20 ++ [p16]))
   else none
  else
   if 0 <= r39.1 ∧ r39.1.toNat < (p19.set r3.1.toNat p16).length then
    ((p19.set r3.1.toNat p16)[r39.1.toNat]?).bind fun (x53:Int) =>
    (uR a0 a1 a2 p16 r3 r39 x1 x15 x37 x53 0 p17 p18 (p19.set r3.1.toNat p16) (p20 ++ [p16])).bind fun (r260:(Option aB) × (Option aB) × (List Int) × (List Int)) =>
    some ((r260.1,r260.2.1,r260.2.2.1,r260.2.2.2))
   else none
 else none
def rD (a0:aA) (a1 a2 p16:Int) (p17 p18:Option aB) (p19 p20 p270 p271:List Int) (r3:Int × Bool) (x1 x15 p275:Int) (p276:List Int):Option ((Int × (List Int)) ⊕ ((List Int))) :=
 if decide (p275 < (p270.length:Int)) = true then
  if 0 <= p275 ∧ p275.toNat < p276.length then
   (p276[p275.toNat]?).bind fun (x277:Int) =>
   if 0 <= p275 ∧ p275.toNat < p276.length then
    (p276[p275.toNat]?).bind fun (x278:Int) =>
    some (.inl (IntKind.wrap .i64 (p275 + 1),p276.set p275.toNat (if x277 > 0 then x277 else 0)))
   else none
  else none
 else
  some (.inr (p276))
def pR (a0:aA) (a1 a2 p16:Int) (p17 p18:Option aB) (p19 p20 p270 p271:List Int) (r3:Int × Bool) (x1 x15 p275:Int) (p276:List Int):Option ((List Int)) :=
 b8 (fun (w:Int × (List Int))=>rD a0 a1 a2 p16 p17 p18 p19 p20 p270 p271 r3 x1 x15 w.1 w.2) (p275,p276)
def uP (a0:aA) (a1 a2 p16:Int) (p17 p18:Option aB) (p19 p20 p270 p271:List Int) (r3:Int × Bool) (x1 x15:Int):Option ((Option aB)) :=
 (pR a0 a1 a2 p16 p17 p18 p19 p20 p270 p271 r3 x1 x15 0 p270).bind fun (r280:(List Int)) =>
 if p18.isNone = true then
  some (some (aB.mk 1 a1 a2 r280 p271))
 else
  (p18).bind fun (x281:aB) =>
  (bC (aB.mk 1 a1 a2 r280 p271) x281).bind fun (r282:Bool) =>
  if r282 = true then
   some (some (aB.mk 1 a1 a2 r280 p271))
  else
   some (p18)
def rC (a0:aA) (a1 a2 p16:Int) (p17 p18:Option aB) (p19 p20 p270 p271:List Int) (r3:Int × Bool) (x1 x15 p285:Int) (p286:List Int):Option ((Int × (List Int)) ⊕ ((List Int))) :=
 if decide (p285 < (p270.length:Int)) = true then
  if 0 <= p285 ∧ p285.toNat < p286.length then
   (p286[p285.toNat]?).bind fun (x287:Int) =>
   if 0 <= p285 ∧ p285.toNat < p286.length then
    (p286[p285.toNat]?).bind fun (x288:Int) =>
    some (.inl (IntKind.wrap .i64 (p285 + 1),p286.set p285.toNat (if x287 > 0 then x287 else 0)))
   else none
  else none
 else
  some (.inr (p286))
def pZ (a0:aA) (a1 a2 p16:Int) (p17 p18:Option aB) (p19 p20 p270 p271:List Int) (r3:Int × Bool) (x1 x15 p285:Int) (p286:List Int):Option ((List Int)) :=
 b8 (fun (w:Int × (List Int))=>rC a0 a1 a2 p16 p17 p18 p19 p20 p270 p271 r3 x1 x15 w.1 w.2) (p285,p286)
def uK (a0:aA) (a1 a2 p16:Int) (p17 p18:Option aB) (p19 p20 p270 p271:List Int) (r3:Int × Bool) (x1 x15:Int):Option ((Option aB)) :=
 (pZ a0 a1 a2 p16 p17 p18 p19 p20 p270 p271 r3 x1 x15 0 p270).bind fun (r290:(List Int)) =>
 if p17.isNone = true then
  some (some (aB.mk 0 a1 a2 r290 p271))
 else
  (p17).bind fun (x291:aB) =>
  (bC (aB.mk 0 a1 a2 r290 p271) x291).bind fun (r292:Bool) =>
  if r292 = true then
   some (some (aB.mk 0 a1 a2 r290 p271))
  else
   some (p17)
def gZ (a0:aA) (a1 a2 p16:Int) (p17 p18:Option aB) (p19 p20:List Int) (r3:Int × Bool) (x1 x15:Int) (p269:Bool) (p270 p271:List Int):Option (((Option aB) × (Option aB)) ⊕ Unit) :=
 if p269 = true then
  (uP a0 a1 a2 p16 p17 p18 p19 p20 p270 p271 r3 x1 x15).bind fun (r284:(Option aB)) =>
  some (.inl (p17,r284))
 else
  if 0 <= (IntKind.wrap .i64 (((p20 ++ [p16]).length:Int) - 1)) ∧ (IntKind.wrap .i64 (((p20 ++ [p16]).length:Int) - 1)).toNat < (p20 ++ [p16]).length then
   ((p20 ++ [p16])[(IntKind.wrap .i64 (((p20 ++ [p16]).length:Int) - 1)).toNat]?).bind fun (x272:Int) =>
   (at? a0.Orders x272).bind fun (x273:aG) =>
   (gA x273 a2).bind fun (r274:Bool) =>
   if r274 = true then
    some (.inr (()))
   else
    (uK a0 a1 a2 p16 p17 p18 p19 p20 p270 p271 r3 x1 x15).bind fun (r294:(Option aB)) =>
    some (.inl (r294,p18))
  else none
def m5 (a0:aA) (a1 a2 p16:Int) (p17 p18:Option aB) (p19 p20:List Int) (r3:Int × Bool) (x1 x15:Int):Option ((Option aB) × (Option aB)) :=
 if r3.2 = true then
  (at? a0.Orders p16).bind fun (x266:aG) =>
  (aF (p19.set r3.1.toNat p16)).bind fun (r267:(List Int)) =>
  (aF (p20 ++ [p16])).bind fun (r268:(List Int)) =>
  (gZ a0 a1 a2 p16 p17 p18 p19 p20 r3 x1 x15 (!(x266.Accepts)) r267 r268).bind fun (r297:((Option aB) × (Option aB)) ⊕ Unit)=>Sum.elim (fun z298 =>
  some ((z298.1,z298.2))) (fun z299 =>
  some ((p17,p18))) r297
 else
  (aF (p19.set r3.1.toNat p16)).bind fun (r300:(List Int)) =>
  (aF (p20 ++ [p16])).bind fun (r301:(List Int)) =>
  (gZ a0 a1 a2 p16 p17 p18 p19 p20 r3 x1 x15 false r300 r301).bind fun (r302:((Option aB) × (Option aB)) ⊕ Unit)=>Sum.elim (fun z303 =>
  some ((z303.1,z303.2))) (fun z304 =>
  some ((p17,p18))) r302
def kX (a0:aA) (a1 a2 p16:Int) (r3:Int × Bool) (x1 x15:Int) (p309 p310:Option aB) (p311 p312:List Int):Option (Unit) :=
 if 0 <= (IntKind.wrap .i64 ((p312.length:Int) - 1)) ∧ (IntKind.wrap .i64 ((p312.length:Int) - 1)).toNat <= p312.length then
  some (())
 else none
def dH (a0:aA) (a1 a2 p16:Int) (r3:Int × Bool) (x1 x15:Int) (p316 p317:Option aB) (p318 p319:List Int):Option ((List Int)) :=
 if (x15 == (-1)) = true then
  if 0 <= r3.1 ∧ r3.1.toNat < p318.length then
   (p318[r3.1.toNat]?).bind fun (x320:Int) =>
   some (p318.set r3.1.toNat (-1))
  else none
 else
  some (p318)
def nB (a0:aA) (a1 a2 p16:Int) (p17 p18:Option aB) (p19 p20:List Int) (r3:Int × Bool) (x1 x15:Int):Option ((Option aB) × (Option aB) × (List Int) × (List Int)) :=
 if 0 <= r3.1 ∧ r3.1.toNat < p19.length then
  (p19[r3.1.toNat]?).bind fun (x22:Int) =>
  if (p16 == x1) = true then
   (aF (p19.set r3.1.toNat p16)).bind fun (r23:(List Int)) =>
   (aF p20).bind fun (r24:(List Int)) =>
   if 0 <= (IntKind.wrap .i64 ((p20.length:Int) - 1)) ∧ (IntKind.wrap .i64 ((p20.length:Int) - 1)).toNat < p20.length then
    (p20[(IntKind.wrap .i64 ((p20.length:Int) - 1)).toNat]?).bind fun (x25:Int) =>
    (at? a0.Orders x25).bind fun (x26:aG) =>
    (gA x26 a2).bind fun (r27:Bool) =>
    if r27 = true then
     (dH a0 a1 a2 p16 r3 x1 x15 p17 p18 (p19.set r3.1.toNat p16) p20).bind fun (r322:(List Int)) =>
     some ((p17,p18,r322,p20))
    else
     (rW a0 a1 a2 p16 p17 p18 p19 p20 r23 r24 r3 x1 x15 0 r23).bind fun (r33:(List Int)) =>
     if p17.isNone = true then
      (dH a0 a1 a2 p16 r3 x1 x15 (some (aB.mk 0 a1 a2 r33 r24)) p18 (p19.set r3.1.toNat p16) p20).bind fun (r323:(List Int)) =>
      some (((some (aB.mk 0 a1 a2 r33 r24)),p18,r323,p20))
     else
      (p17).bind fun (x34:aB) =>
      (bC (aB.mk 0 a1 a2 r33 r24) x34).bind fun (r35:Bool) =>
      if r35 = true then
       (dH a0 a1 a2 p16 r3 x1 x15 (some (aB.mk 0 a1 a2 r33 r24)) p18 (p19.set r3.1.toNat p16) p20).bind fun (r324:(List Int)) =>
       some (((some (aB.mk 0 a1 a2 r33 r24)),p18,r324,p20))
      else
       (dH a0 a1 a2 p16 r3 x1 x15 p17 p18 (p19.set r3.1.toNat p16) p20).bind fun (r325:(List Int)) =>
       some ((p17,p18,r325,p20))
   else none
  else
   (b7 p20 p16).bind fun (r36:Bool) =>
   if (p20.length + 1) * 8 <= 140737488355328 then
    if r3.2 = true then
     if (!(r36)) = true then
      (qB a0 a1 a2 p16 p17 p18 p19 p20 r3 x1 x15).bind fun (r265:(Option aB) × (Option aB) × (List Int) × (List Int)) =>
      (kX a0 a1 a2 p16 r3 x1 x15 r265.1 r265.2.1 r265.2.2.1 r265.2.2.2).bind fun (r313:Unit) =>
      (dH a0 a1 a2 p16 r3 x1 x15 r265.1 r265.2.1 r265.2.2.1 (r265.2.2.2.take ((IntKind.wrap .i64 ((r265.2.2.2.length:Int) - 1)).toNat))).bind fun (r326:(List Int)) =>
      some ((r265.1,r265.2.1,r326,(r265.2.2.2.take ((IntKind.wrap .i64 ((r265.2.2.2.length:Int) - 1)).toNat))))
     else
      (m5 a0 a1 a2 p16 p17 p18 p19 p20 r3 x1 x15).bind fun (r307:(Option aB) × (Option aB)) =>
      (kX a0 a1 a2 p16 r3 x1 x15 r307.1 r307.2 (p19.set r3.1.toNat p16) (p20 ++ [p16])).bind fun (r314:Unit) =>
      (dH a0 a1 a2 p16 r3 x1 x15 r307.1 r307.2 (p19.set r3.1.toNat p16) ((p20 ++ [p16]).take ((IntKind.wrap .i64 (((p20 ++ [p16]).length:Int) - 1)).toNat))).bind fun (r327:(List Int)) =>
      some ((r307.1,r307.2,r327,((p20 ++ [p16]).take ((IntKind.wrap .i64 (((p20 ++ [p16]).length:Int) - 1)).toNat))))
    else
     (m5 a0 a1 a2 p16 p17 p18 p19 p20 r3 x1 x15).bind fun (r308:(Option aB) × (Option aB)) =>
     (kX a0 a1 a2 p16 r3 x1 x15 r308.1 r308.2 (p19.set r3.1.toNat p16) (p20 ++ [p16])).bind fun (r315:Unit) =>
     (dH a0 a1 a2 p16 r3 x1 x15 r308.1 r308.2 (p19.set r3.1.toNat p16) ((p20 ++ [p16]).take ((IntKind.wrap .i64 (((p20 ++ [p16]).length:Int) - 1)).toNat))).bind fun (r328:(List Int)) =>
     some ((r308.1,r308.2,r328,((p20 ++ [p16]).take ((IntKind.wrap .i64 (((p20 ++ [p16]).length:Int) - 1)).toNat))))
   else none
 else none
def iU (a0:aA) (a1 a2:Int) (r3:Int × Bool) (x1 x15 p16:Int) (p17 p18:Option aB) (p19 p20:List Int):Option ((Int × (Option aB) × (Option aB) × (List Int) × (List Int)) ⊕ ((Option aB) × (Option aB))) :=
 if decide (p16 < (a0.Orders.length:Int)) = true then
  if (!(x15 == (-1))) = true then
   if 0 <= r3.1 ∧ r3.1.toNat < p19.length then
    (p19[r3.1.toNat]?).bind fun (x21:Int) =>
    if (x21 != p16) = true then
     some (.inl (IntKind.wrap .i64 (p16 + 1),p17,p18,p19,p20))
    else
     (nB a0 a1 a2 p16 p17 p18 p19 p20 r3 x1 x15).bind fun (r333:(Option aB) × (Option aB) × (List Int) × (List Int)) =>
     some (.inl (IntKind.wrap .i64 (p16 + 1),r333.1,r333.2.1,r333.2.2.1,r333.2.2.2))
   else none
  else
   (nB a0 a1 a2 p16 p17 p18 p19 p20 r3 x1 x15).bind fun (r334:(Option aB) × (Option aB) × (List Int) × (List Int)) =>
   some (.inl (IntKind.wrap .i64 (p16 + 1),r334.1,r334.2.1,r334.2.2.1,r334.2.2.2))
 else
  some (.inr ((p17,p18)))
def qA (a0:aA) (a1 a2:Int) (r3:Int × Bool) (x1 x15 p16:Int) (p17 p18:Option aB) (p19 p20:List Int):Option ((Option aB) × (Option aB)) :=
 b8 (fun (w:Int × (Option aB) × (Option aB) × (List Int) × (List Int))=>iU a0 a1 a2 r3 x1 x15 w.1 w.2.1 w.2.2.1 w.2.2.2.1 w.2.2.2.2) (p16,p17,p18,p19,p20)
def tV (a0:aA) (a1 a2:Int):Option (aO) :=
 if 0 <= (IntKind.wrap .i64 (([a1].length:Int) - 1)) ∧ (IntKind.wrap .i64 (([a1].length:Int) - 1)).toNat < 1 then
  ([a1][(IntKind.wrap .i64 (([a1].length:Int) - 1)).toNat]?).bind fun (x1:Int) =>
  (at? a0.Orders x1).bind fun (x2:aG) =>
  (oM x2 a2).bind fun (r3:Int × Bool) =>
  if (r3.1 == 0) = true then
   (aF [a1,(-1),(-1),(-1),(-1)]).bind fun (r4:(List Int)) =>
   (aF [a1]).bind fun (r5:(List Int)) =>
   if 0 <= (IntKind.wrap .i64 (([a1].length:Int) - 1)) ∧ (IntKind.wrap .i64 (([a1].length:Int) - 1)).toNat < 1 then
    ([a1][(IntKind.wrap .i64 (([a1].length:Int) - 1)).toNat]?).bind fun (x6:Int) =>
    (at? a0.Orders x6).bind fun (x7:aG) =>
    (gA x7 a2).bind fun (r8:Bool) =>
    if r8 = true then
     some (aO.mk none none)
    else
     (rM a1 a2 r4 r5 0 r4).bind fun (r14:(List Int)) =>
     some (aO.mk (some (aB.mk 0 a1 a2 r14 r5)) none)
   else none
  else
   if 0 <= r3.1 ∧ r3.1.toNat < 5 then
    ([a1,(-1),(-1),(-1),(-1)][r3.1.toNat]?).bind fun (x15:Int) =>
    (qA a0 a1 a2 r3 x1 x15 0 none none [a1,(-1),(-1),(-1),(-1)] [a1]).bind fun (r337:(Option aB) × (Option aB)) =>
    some (aO.mk r337.1 r337.2)
   else none
 else none
def pM (a0:aA) (p2 p4 p7:Int) (p8:List aB) (r6:aO) (p9:Option aB):Option ((List aB)) :=
 if p9.isSome = true then
  (p9).bind fun (x10:aB) =>
  if (p8.length + 1) * 72 <= 140737488355328 then
   some (p8 ++ [x10])
  else none
 else
  some (p8)
def kC (a0:aA) (p2 p4:Int) (r6:aO) (p7:Int) (p8:List aB):Option ((Int × (List aB)) ⊕ ((List aB))) :=
 if decide (p7 < 2) = true then
  if p7 = 0 then
   (pM a0 p2 p4 p7 p8 r6 r6.e0).bind fun (r12:(List aB)) =>
   some (.inl (IntKind.wrap .i64 (p7 + 1),r12))
  else
   if p7 = 1 then
    (pM a0 p2 p4 p7 p8 r6 r6.e1).bind fun (r13:(List aB)) =>
    some (.inl (IntKind.wrap .i64 (p7 + 1),r13))
   else none
 else
  some (.inr (p8))
def tO (a0:aA) (p2 p4:Int) (r6:aO) (p7:Int) (p8:List aB):Option ((List aB)) :=
 b8 (fun (w:Int × (List aB))=>kC a0 p2 p4 r6 w.1 w.2) (p7,p8)
def kZ (a0:aA) (p2 p4:Int) (p5:List aB):Option ((Int × (List aB)) ⊕ ((List aB))) :=
 if decide (p4 < 22) = true then
  (tV a0 p2 p4).bind fun (r6:aO) =>
  (tO a0 p2 p4 r6 0 p5).bind fun (r15:(List aB)) =>
  some (.inl (IntKind.wrap .i64 (p4 + 1),r15))
 else
  some (.inr (p5))
def tT (a0:aA) (p2 p4:Int) (p5:List aB):Option ((List aB)) :=
 b8 (fun (w:Int × (List aB))=>kZ a0 p2 w.1 w.2) (p4,p5)
def kV (a0:aA) (p2:Int) (p3:List aB):Option ((Int × (List aB)) ⊕ ((List aB))) :=
 if decide (p2 < (a0.Orders.length:Int)) = true then
  (tT a0 p2 0 p3).bind fun (r17:(List aB)) =>
  some (.inl (IntKind.wrap .i64 (p2 + 1),r17))
 else
  some (.inr (p3))
def yA (a0:aA) (p2:Int) (p3:List aB):Option ((List aB)) :=
 b8 (fun (w:Int × (List aB))=>kV a0 w.1 w.2) (p2,p3)
def n0 (a0:aA):Option ((List aB) × Int) :=
 (iL a0).bind fun (r1:Int) =>
 if (r1 != 0) = true then
  some ([],r1)
 else
  (yA a0 0 []).bind fun (r19:(List aB)) =>
  some (r19,0)
def dA (a0 a1:List Int) (p1:Int):Option ((Int) ⊕ (Unit ⊕ Unit)) :=
 if decide (p1 < (a0.length:Int)) = true then
  (at? a0 p1).bind fun (x2:Int) =>
  (at? a1 p1).bind fun (x3:Int) =>
  if (x2 != x3) = true then
   some (.inr (.inr (())))
  else
   some (.inl (IntKind.wrap .i64 (p1 + 1)))
 else
  some (.inr (.inl ()))
def lS (a0 a1:List Int) (p1:Int):Option (Unit ⊕ Unit) :=
 b8 (fun (w:Int)=>dA a0 a1 w) p1
def eB (a0 a1:List Int):Option (Bool) :=
 if ((a0.length:Int) != (a1.length:Int)) = true then
  some false
 else
  (lS a0 a1 0).bind fun (r4:Unit ⊕ Unit)=>Sum.elim (fun z5 =>
  some true) (fun z6 =>
  some false) r4
def mC (a0 a1:aB):Option (Bool) :=
 if (a0.Kind == a1.Kind) = true then
  if (a0.Forum == a1.Forum) = true then
   if (a0.Ask == a1.Ask) = true then
    (eB a0.Places a1.Places).bind fun (r1:Bool) =>
    if r1 = true then
     (eB a0.Path a1.Path).bind fun (r2:Bool) =>
     some r2
    else
     some false
   else
    some false
  else
   some false
 else
  some false
def dK (a0 a1:List aB) (p1:Int):Option ((Int) ⊕ (Unit ⊕ Unit)) :=
 if decide (p1 < (a0.length:Int)) = true then
  (at? a0 p1).bind fun (x2:aB) =>
  (at? a1 p1).bind fun (x3:aB) =>
  (mC x2 x3).bind fun (r4:Bool) =>
  if (!(r4)) = true then
   some (.inr (.inr (())))
  else
   some (.inl (IntKind.wrap .i64 (p1 + 1)))
 else
  some (.inr (.inl ()))
def mF (a0 a1:List aB) (p1:Int):Option (Unit ⊕ Unit) :=
 b8 (fun (w:Int)=>dK a0 a1 w) p1
def gT (a0 a1:List aB):Option (Bool) :=
 if ((a0.length:Int) != (a1.length:Int)) = true then
  some false
 else
  (mF a0 a1 0).bind fun (r5:Unit ⊕ Unit)=>Sum.elim (fun z6 =>
  some true) (fun z7 =>
  some false) r5
def nV (a0 a1:Int):Option (Bool) :=
 if decide (a0 < 0) = true then
  some true
 else
  some (decide (a0 ≥ a1))
def bR (a0:List Int) (a1 p1:Int):Option ((Int) ⊕ (Unit ⊕ Int)) :=
 if decide (p1 < (a0.length:Int)) = true then
  (at? a0 p1).bind fun (x2:Int) =>
  (nV x2 a1).bind fun (r3:Bool) =>
  if r3 = true then
   some (.inr (.inr (p1)))
  else
   some (.inl (IntKind.wrap .i64 (p1 + 1)))
 else
  some (.inr (.inl ()))
def iB (a0:List Int) (a1 p1:Int):Option (Unit ⊕ Int) :=
 b8 (fun (w:Int)=>bR a0 a1 w) p1
def gJ (a0:List Int) (a1:Int):Option (Int) :=
 (iB a0 a1 0).bind fun (r5:Unit ⊕ Int)=>Sum.elim (fun z6 =>
 some (-1)) (fun z7 =>
 some z7) r5
def c8 (a0:List Int) (a1:Int):Option (Bool) :=
 (gJ a0 a1).bind fun (r1:Int) =>
 some (decide (r1 ≥ 0))
def oV (a0:aA) (a1 a2:Int) (a3:List Int):Option (Bool) :=
 if decide (a1 < 0) = true then
  some false
 else
  if decide (a1 ≥ (a0.Orders.length:Int)) = true then
   some false
  else
   if decide (a2 < 0) = true then
    some false
   else
    if decide (a2 ≥ 22) = true then
     some false
    else
     if ((a3.length:Int) != 5) = true then
      some false
     else
      (c8 a3 (a0.Orders.length:Int)).bind fun (r1:Bool) =>
      some (!(r1))
def iE (a1 a2:Int) (a3:List Int) (x2:aG) (p3:Int):Option ((Int) ⊕ (Unit ⊕ (Int × Bool))) :=
 if decide (p3 < (x2.Choices.length:Int)) = true then
  (at? x2.Choices p3).bind fun (x4:aM) =>
  if (x4.Ask == a2) = true then
   if (x4.By != 0) = true then
    (at? a3 x4.By).bind fun (x5:Int) =>
    some (.inr (.inr ((x5,x4.Whole))))
   else
    some (.inl (IntKind.wrap .i64 (p3 + 1)))
  else
   some (.inl (IntKind.wrap .i64 (p3 + 1)))
 else
  some (.inr (.inl ()))
def sU (a1 a2:Int) (a3:List Int) (x2:aG) (p3:Int):Option (Unit ⊕ (Int × Bool)) :=
 b8 (fun (w:Int)=>iE a1 a2 a3 x2 w) p3
def pN (a0:aA) (a1 a2:Int) (a3:List Int):Option (Int × Bool) :=
 (oV a0 a1 a2 a3).bind fun (r1:Bool) =>
 if (!(r1)) = true then
  some ((-1),false)
 else
  (at? a0.Orders a1).bind fun (x2:aG) =>
  (sU a1 a2 a3 x2 0).bind fun (r8:Unit ⊕ (Int × Bool))=>Sum.elim (fun z9 =>
  some (a1,false)) (fun z10 =>
  some (z10.1,z10.2)) r8
def mD (a0:aA) (a2:Int) (a3 p3:List Int):Option (((List Int)) ⊕ (Int × (List Int))) :=
 if 0 <= (IntKind.wrap .i64 ((p3.length:Int) - 1)) ∧ (IntKind.wrap .i64 ((p3.length:Int) - 1)).toNat < p3.length then
  (p3[(IntKind.wrap .i64 ((p3.length:Int) - 1)).toNat]?).bind fun (x4:Int) =>
  (pN a0 x4 a2 a3).bind fun (r5:Int × Bool) =>
  if (r5.1 == x4) = true then
   some (.inr ((0,p3)))
  else
   (b7 p3 r5.1).bind fun (r6:Bool) =>
   if (p3.length + 1) * 8 <= 140737488355328 then
    if (!(r5.2)) = true then
     some (.inr ((0,p3 ++ [r5.1])))
    else
     if r6 = true then
      (at? a0.Orders r5.1).bind fun (x7:aG) =>
      if x7.Accepts = true then
       some (.inr ((0,p3 ++ [r5.1])))
      else
       if r6 = true then
        some (.inr ((12,p3 ++ [r5.1])))
       else
        some (.inl (p3 ++ [r5.1]))
     else
      if r6 = true then
       some (.inr ((12,p3 ++ [r5.1])))
      else
       some (.inl (p3 ++ [r5.1]))
   else none
 else none
def vV (a0:aA) (a2:Int) (a3 p3:List Int):Option (Int × (List Int)) :=
 b8 (fun (w:(List Int))=>mD a0 a2 a3 w) p3
def oL (a0:aA) (a1 a2:Int) (a3:List Int):Option ((List Int) × Int) :=
 (oV a0 a1 a2 a3).bind fun (r1:Bool) =>
 if (!(r1)) = true then
  some ([],1)
 else
  (at? a3 0).bind fun (x2:Int) =>
  if (x2 != a1) = true then
   some ([],1)
  else
   (vV a0 a2 a3 [a1]).bind fun (r10:Int × (List Int)) =>
   some (r10.2,r10.1)
def dM (a0 a1:List Int) (p1:Int):Option ((Int) ⊕ (Unit ⊕ Unit)) :=
 if decide (p1 < (a0.length:Int)) = true then
  (at? a0 p1).bind fun (x2:Int) =>
  (at? a1 p1).bind fun (x3:Int) =>
  if (x2 != x3) = true then
   some (.inr (.inr (())))
  else
   some (.inl (IntKind.wrap .i64 (p1 + 1)))
 else
  some (.inr (.inl ()))
def mG (a0 a1:List Int) (p1:Int):Option (Unit ⊕ Unit) :=
 b8 (fun (w:Int)=>dM a0 a1 w) p1
def gW (a0 a1:List Int):Option (Bool) :=
 if ((a0.length:Int) != (a1.length:Int)) = true then
  some false
 else
  (mG a0 a1 0).bind fun (r4:Unit ⊕ Unit)=>Sum.elim (fun z5 =>
  some true) (fun z6 =>
  some false) r4
def pO (a0:aA) (a1:aB) (r2:(List Int) × Int):Option (Bool) :=
 if (r2.2 == 12) = true then
  some (a1.Kind == 1)
 else
  if (a1.Kind == 0) = true then
   (at? r2.1 (IntKind.wrap .i64 ((r2.1.length:Int) - 1))).bind fun (x5:Int) =>
   (at? a0.Orders x5).bind fun (x6:aG) =>
   (gA x6 a1.Ask).bind fun (r7:Bool) =>
   some (!(r7))
  else
   some (false)
def fX (a0:aA) (a1:aB):Option (Bool) :=
 (iL a0).bind fun (r1:Int) =>
 if (r1 != 0) = true then
  some false
 else
  (oL a0 a1.Forum a1.Ask a1.Places).bind fun (r2:(List Int) × Int) =>
  if (r2.2 != 0) = true then
   if (r2.2 != 12) = true then
    some false
   else
    (gW r2.1 a1.Path).bind fun (r3:Bool) =>
    if (!(r3)) = true then
     some false
    else
     (pO a0 a1 r2).bind fun (r9:Bool) =>
     some r9
  else
   (gW r2.1 a1.Path).bind fun (r4:Bool) =>
   if (!(r4)) = true then
    some false
   else
    (pO a0 a1 r2).bind fun (r10:Bool) =>
    some r10
def oA (a0:aA):Option (Bool) :=
 (n0 a0).bind fun (r1:(List aB) × Int) =>
 if (r1.2 == 0) = true then
  some ((r1.1.length:Int) == 0)
 else
  some false
def iV:Option (Bool) :=
 (o4).bind fun (r1:aA) =>
 (n0 r1).bind fun (r2:(List aB) × Int) =>
 if (0 + 1) * 72 <= 140737488355328 then
  if ((([]:List aB) ++ [(aB.mk 1 0 1 [0,0,0,0,1] [0,1,0])]).length + 1) * 72 <= 140737488355328 then
   if (((([]:List aB) ++ [(aB.mk 1 0 1 [0,0,0,0,1] [0,1,0])]) ++ [(aB.mk 0 0 6 [0,0,1,0,0] [0,1])]).length + 1) * 72 <= 140737488355328 then
    if ((((([]:List aB) ++ [(aB.mk 1 0 1 [0,0,0,0,1] [0,1,0])]) ++ [(aB.mk 0 0 6 [0,0,1,0,0] [0,1])]) ++ [(aB.mk 1 1 1 [1,0,0,0,1] [1,0,1])]).length + 1) * 72 <= 140737488355328 then
     if 0 <= 1 ∧ 1 < ((((([]:List aB) ++ [(aB.mk 1 0 1 [0,0,0,0,1] [0,1,0])]) ++ [(aB.mk 0 0 6 [0,0,1,0,0] [0,1])]) ++ [(aB.mk 1 1 1 [1,0,0,0,1] [1,0,1])]) ++ [(aB.mk 0 1 6 [1,0,0,0,0] [1])]).length then
      (((((([]:List aB) ++ [(aB.mk 1 0 1 [0,0,0,0,1] [0,1,0])]) ++ [(aB.mk 0 0 6 [0,0,1,0,0] [0,1])]) ++ [(aB.mk 1 1 1 [1,0,0,0,1] [1,0,1])]) ++ [(aB.mk 0 1 6 [1,0,0,0,0] [1])])[1]?).bind fun (x3:aB) =>
      if 0 <= 1 ∧ 1 < ((((([]:List aB) ++ [(aB.mk 1 0 1 [0,0,0,0,1] [0,1,0])]) ++ [(aB.mk 0 0 6 [0,0,1,0,0] [0,1])]) ++ [(aB.mk 1 1 1 [1,0,0,0,1] [1,0,1])]) ++ [(aB.mk 0 1 6 [1,0,0,0,0] [1])]).length then
       (((((([]:List aB) ++ [(aB.mk 1 0 1 [0,0,0,0,1] [0,1,0])]) ++ [(aB.mk 0 0 6 [0,0,1,0,0] [0,1])]) ++ [(aB.mk 1 1 1 [1,0,0,0,1] [1,0,1])]) ++ [(aB.mk 0 1 6 [1,0,0,0,0] [1])])[1]?).bind fun (x4:aB) =>
       if (r2.2 == 0) = true then
        (gT r2.1 ((((([]:List aB) ++ [(aB.mk 1 0 1 [0,0,0,0,1] [0,1,0])]) ++ [(aB.mk 0 0 6 [0,0,1,0,0] [0,1])]) ++ [(aB.mk 1 1 1 [1,0,0,0,1] [1,0,1])]) ++ [(aB.mk 0 1 6 [1,0,0,0,0] [1])])).bind fun (r5:Bool) =>
        if r5 = true then
         if 0 <= 0 ∧ 0 < ((((([]:List aB) ++ [(aB.mk 1 0 1 [0,0,0,0,1] [0,1,0])]) ++ [(aB.mk 0 0 6 [0,0,1,0,0] [0,1])]) ++ [(aB.mk 1 1 1 [1,0,0,0,1] [1,0,1])]) ++ [(aB.mk 0 1 6 [1,0,0,0,0] [1])]).length then
          (((((([]:List aB) ++ [(aB.mk 1 0 1 [0,0,0,0,1] [0,1,0])]) ++ [(aB.mk 0 0 6 [0,0,1,0,0] [0,1])]) ++ [(aB.mk 1 1 1 [1,0,0,0,1] [1,0,1])]) ++ [(aB.mk 0 1 6 [1,0,0,0,0] [1])])[0]?).bind fun (x6:aB) =>
          (fX r1 x6).bind fun (r7:Bool) =>
          if r7 = true then
           (fX r1 (aB.mk x3.Kind x3.Forum x3.Ask [0,1,1,1,1] x3.Path)).bind fun (r8:Bool) =>
           if r8 = true then
            (fX r1 (aB.mk 1 x4.Forum x4.Ask x4.Places x4.Path)).bind fun (r9:Bool) =>
            if (!(r9)) = true then
             (oA r1).bind fun (r10:Bool) =>
             if (!(r10)) = true then
              (oA (aA.mk [] [] [] [] [] [] [] [])).bind fun (r11:Bool) =>
              some r11
             else
              some false
            else
             some false
           else
            some false
          else
           some false
         else none
        else
         some false
       else
        some false
      else none
     else none
    else none
   else none
  else none
 else none
def fY (a0:aA) (p1:Int):Option ((Int) ⊕ (Unit ⊕ Unit)) :=
 if decide (p1 < (a0.Cities.length:Int)) = true then
  if decide (p1 < 50) = true then
   (at? a0.Cities p1).bind fun (x2:a7) =>
   if decide ((x2.Feasts.length:Int) > 70) = true then
    some (.inr (.inr (())))
   else
    (at? a0.Cities p1).bind fun (x3:a7) =>
    if decide ((x3.Shut.length:Int) > 210) = true then
     some (.inr (.inr (())))
    else
     (at? a0.Cities p1).bind fun (x4:a7) =>
     if decide ((x4.Rest.length:Int) > 8) = true then
      some (.inr (.inr (())))
     else
      some (.inl (IntKind.wrap .i64 (p1 + 1)))
  else
   some (.inr (.inl ()))
 else
  some (.inr (.inl ()))
def qC (a0:aA) (p1:Int):Option (Unit ⊕ Unit) :=
 b8 (fun (w:Int)=>fY a0 w) p1
def fZ (a0:aA) (p8:Int):Option ((Int) ⊕ (Unit ⊕ Unit)) :=
 if decide (p8 < (a0.Orders.length:Int)) = true then
  if decide (p8 < 50) = true then
   (at? a0.Orders p8).bind fun (x9:aG) =>
   if decide ((x9.Choices.length:Int) > 40) = true then
    some (.inr (.inr (())))
   else
    (at? a0.Orders p8).bind fun (x10:aG) =>
    if decide ((x10.Rules.length:Int) > 40) = true then
     some (.inr (.inr (())))
    else
     some (.inl (IntKind.wrap .i64 (p8 + 1)))
  else
   some (.inr (.inl ()))
 else
  some (.inr (.inl ()))
def pQ (a0:aA) (p8:Int):Option (Unit ⊕ Unit) :=
 b8 (fun (w:Int)=>fZ a0 w) p8
def m7 (a0:aA):Option (Bool) :=
 (qC a0 0).bind fun (r5:Unit ⊕ Unit)=>Sum.elim (fun z6 =>
 (pQ a0 0).bind fun (r11:Unit ⊕ Unit)=>Sum.elim (fun z12 =>
  if decide ((a0.Currencies.length:Int) < 50) = true then
    if decide ((a0.Cities.length:Int) < 50) = true then
     if decide ((a0.Groups.length:Int) < 50) = true then
      if decide ((a0.Firms.length:Int) < 210) = true then
       if decide ((a0.Orders.length:Int) < 50) = true then
        if decide ((a0.Usances.length:Int) < 110) = true then
         if decide ((a0.Rates.length:Int) < 110) = true then
          some (decide ((a0.Halts.length:Int) < 50))
         else
          some false
        else
         some false
       else
        some false
      else
       some false
     else
      some false
    else
     some false
   else
    some false) (fun z13 =>
  some false) r11) (fun z7 =>
 some false) r5
def nE (a0:aA):Option (Bool) :=
 (m7 a0).bind fun (r1:Bool) =>
 if r1 = true then
  some (decide ((a0.Orders.length:Int) <= 3))
 else
  some false
def jU (a0:Int):Option (Bool) :=
 if decide (97 <= a0) = true then
  if decide (a0 <= 122) = true then
   some true
  else
   if decide (65 <= a0) = true then
    some (decide (a0 <= 90))
   else
    some false
 else
  if decide (65 <= a0) = true then
   some (decide (a0 <= 90))
  else
   some false
def gU (a0:ByteArray) (p1:Int) (p5:Bool):Option (Unit ⊕ Unit) :=
 (sAt a0 p1).bind fun (x6:Int) =>
 (jU x6).bind fun (r7:Bool) =>
 if (!(r7)) = true then
  if (p1 == 0) = true then
   some (.inr (()))
  else
   if (!(p5)) = true then
    some (.inr (()))
   else
    some (.inl ())
 else
  some (.inl ())
def fE (a0:ByteArray) (p1:Int):Option ((Int) ⊕ (Unit ⊕ Unit)) :=
 if decide (p1 < (a0.size:Int)) = true then
  (sAt a0 p1).bind fun (x2:Int) =>
  if (x2 == 95) = true then
   (gU a0 p1 true).bind fun (r8:Unit ⊕ Unit)=>Sum.elim (fun z9 =>
   some (.inl (IntKind.wrap .i64 (p1 + 1)))) (fun z10 =>
   some (.inr (.inr (())))) r8
  else
   (sAt a0 p1).bind fun (x3:Int) =>
   if decide (48 <= x3) = true then
    (sAt a0 p1).bind fun (x4:Int) =>
    (gU a0 p1 (decide (x4 <= 57))).bind fun (r11:Unit ⊕ Unit)=>Sum.elim (fun z12 =>
    some (.inl (IntKind.wrap .i64 (p1 + 1)))) (fun z13 =>
    some (.inr (.inr (())))) r11
   else
    (gU a0 p1 false).bind fun (r14:Unit ⊕ Unit)=>Sum.elim (fun z15 =>
    some (.inl (IntKind.wrap .i64 (p1 + 1)))) (fun z16 =>
    some (.inr (.inr (())))) r14
 else
  some (.inr (.inl ()))
def o9 (a0:ByteArray) (p1:Int):Option (Unit ⊕ Unit) :=
 b8 (fun (w:Int)=>fE a0 w) p1
def mB (a0:ByteArray):Option (Bool) :=
 if decide ((a0.size:Int) < 1) = true then
  some false
 else
  if decide ((a0.size:Int) > 20) = true then
   some false
  else
   (o9 a0 0).bind fun (r17:Unit ⊕ Unit)=>Sum.elim (fun z18 =>
   some true) (fun z19 =>
   some false) r17
def d9 (a0:List ByteArray) (a1:Int) (a2:ByteArray) (p1:Int):Option ((Int) ⊕ (Unit ⊕ Unit)) :=
 if decide (p1 < a1) = true then
  if decide (p1 < (a0.length:Int)) = true then
   (at? a0 p1).bind fun (x2:ByteArray) =>
   if (x2.toList == a2.toList) = true then
    some (.inr (.inr (())))
   else
    some (.inl (IntKind.wrap .i64 (p1 + 1)))
  else
   some (.inr (.inl ()))
 else
  some (.inr (.inl ()))
def m0 (a0:List ByteArray) (a1:Int) (a2:ByteArray) (p1:Int):Option (Unit ⊕ Unit) :=
 b8 (fun (w:Int)=>d9 a0 a1 a2 w) p1
def jQ (a0:List ByteArray) (a1:Int) (a2:ByteArray):Option (Bool) :=
 (m0 a0 a1 a2 0).bind fun (r3:Unit ⊕ Unit)=>Sum.elim (fun z4 =>
 some false) (fun z5 =>
 some true) r3
def cZ (a0:List ByteArray) (a1:Int):Option (Int) :=
 (at? a0 a1).bind fun (x1:ByteArray) =>
 (mB x1).bind fun (r2:Bool) =>
 if (!(r2)) = true then
  some 2
 else
  (at? a0 a1).bind fun (x3:ByteArray) =>
  (jQ a0 a1 x3).bind fun (r4:Bool) =>
  if r4 = true then
   some 5
  else
   some 0
def aL (a0 a1 a2:Int):Option (Bool) :=
 if decide (a1 <= a0) = true then
  some (decide (a0 <= a2))
 else
  some false
def eA (a0:List Int) (a1 a2 p1:Int):Option ((Int) ⊕ (Unit ⊕ Unit)) :=
 if decide (p1 < (a0.length:Int)) = true then
  (at? a0 p1).bind fun (x2:Int) =>
  (aL x2 a1 a2).bind fun (r3:Bool) =>
  if (!(r3)) = true then
   some (.inr (.inr (())))
  else
   if decide (p1 > 0) = true then
    (at? a0 (IntKind.wrap .i64 (p1 - 1))).bind fun (x4:Int) =>
    (at? a0 p1).bind fun (x5:Int) =>
    if decide (x4 ≥ x5) = true then
     some (.inr (.inr (())))
    else
     some (.inl (IntKind.wrap .i64 (p1 + 1)))
   else
    some (.inl (IntKind.wrap .i64 (p1 + 1)))
 else
  some (.inr (.inl ()))
def nO (a0:List Int) (a1 a2 p1:Int):Option (Unit ⊕ Unit) :=
 b8 (fun (w:Int)=>eA a0 a1 a2 w) p1
def fT (a0:List Int) (a1 a2:Int):Option (Bool) :=
 (nO a0 a1 a2 0).bind fun (r6:Unit ⊕ Unit)=>Sum.elim (fun z7 =>
 some true) (fun z8 =>
 some false) r6
def cU (a1:a7) (p3:Int):Option ((Int) ⊕ (Unit ⊕ Unit)) :=
 if decide (p3 < (a1.Feasts.length:Int)) = true then
  (at? a1.Feasts p3).bind fun (x4:Int) =>
  (aL (IntKind.wrap .i64 (x4.tdiv 100)) 1 12).bind fun (r5:Bool) =>
  if (!(r5)) = true then
   some (.inr (.inr (())))
  else
   (at? a1.Feasts p3).bind fun (x6:Int) =>
   (aL (x6.tmod 100) 1 31).bind fun (r7:Bool) =>
   if (!(r7)) = true then
    some (.inr (.inr (())))
   else
    some (.inl (IntKind.wrap .i64 (p3 + 1)))
 else
  some (.inr (.inl ()))
def kT (a1:a7) (p3:Int):Option (Unit ⊕ Unit) :=
 b8 (fun (w:Int)=>cU a1 w) p3
def hY (a0:aA) (a1:a7):Option (Bool) :=
 (aL a1.Order 0 (IntKind.wrap .i64 ((a0.Orders.length:Int) - 1))).bind fun (r1:Bool) =>
 if (!(r1)) = true then
  some false
 else
  (aL a1.Currency 0 (IntKind.wrap .i64 ((a0.Currencies.length:Int) - 1))).bind fun (r2:Bool) =>
  if (!(r2)) = true then
   some false
  else
   if decide ((a1.Feasts.length:Int) > 60) = true then
    some false
   else
    if decide ((a1.Shut.length:Int) > 200) = true then
     some false
    else
     (kT a1 0).bind fun (r8:Unit ⊕ Unit)=>Sum.elim (fun z9 =>
     (fT a1.Rest 0 6).bind fun (r11:Bool) =>
      if r11 = true then
       (fT a1.Feasts 0 2000).bind fun (r12:Bool) =>
       if r12 = true then
        (fT a1.Shut 0 100000).bind fun (r13:Bool) =>
        some r13
       else
        some false
      else
       some false) (fun z10 =>
     some false) r8
def dZ (a0:aA) (p1:Int):Option ((Int) ⊕ (Unit ⊕ Int)) :=
 if decide (p1 < (a0.Currencies.length:Int)) = true then
  (cZ a0.Currencies p1).bind fun (r2:Int) =>
  if (r2 != 0) = true then
   some (.inr (.inr (r2)))
  else
   some (.inl (IntKind.wrap .i64 (p1 + 1)))
 else
  some (.inr (.inl ()))
def nC (a0:aA) (p1:Int):Option (Unit ⊕ Int) :=
 b8 (fun (w:Int)=>dZ a0 w) p1
def dW (a0:aA) (p7:Int) (p8:List ByteArray):Option ((Int × (List ByteArray)) ⊕ (Unit ⊕ Int)) :=
 if decide (p7 < (a0.Cities.length:Int)) = true then
  (at? a0.Cities p7).bind fun (x9:a7) =>
  if (p8.length + 1) * 16 <= 140737488355328 then
   (cZ (p8 ++ [x9.Name]) p7).bind fun (r10:Int) =>
   if (r10 != 0) = true then
    some (.inr (.inr (r10)))
   else
    (at? a0.Cities p7).bind fun (x11:a7) =>
    (hY a0 x11).bind fun (r12:Bool) =>
    if (!(r12)) = true then
     some (.inr (.inr (1)))
    else
     some (.inl (IntKind.wrap .i64 (p7 + 1),p8 ++ [x9.Name]))
  else none
 else
  some (.inr (.inl ()))
def mZ (a0:aA) (p7:Int) (p8:List ByteArray):Option (Unit ⊕ Int) :=
 b8 (fun (w:Int × (List ByteArray))=>dW a0 w.1 w.2) (p7,p8)
def jP (a0:aA):Option (Int) :=
 if decide ((a0.Currencies.length:Int) > 8) = true then
  some 6
 else
  (nC a0 0).bind fun (r4:Unit ⊕ Int)=>Sum.elim (fun z5 =>
  if decide ((a0.Cities.length:Int) > 40) = true then
    some 6
   else
    (mZ a0 0 []).bind fun (r14:Unit ⊕ Int)=>Sum.elim (fun z15 =>
    some 0) (fun z16 =>
    some z16) r14) (fun z6 =>
  some z6) r4
def eL (a0:aA) (p1:Int):Option ((Int) ⊕ (Unit ⊕ Unit)) :=
 if decide (p1 < (a0.Groups.length:Int)) = true then
  (at? a0.Groups p1).bind fun (x2:bU) =>
  (aL x2.Grade 0 9).bind fun (r3:Bool) =>
  if (!(r3)) = true then
   some (.inr (.inr (())))
  else
   some (.inl (IntKind.wrap .i64 (p1 + 1)))
 else
  some (.inr (.inl ()))
def oB (a0:aA) (p1:Int):Option (Unit ⊕ Unit) :=
 b8 (fun (w:Int)=>eL a0 w) p1
def eD (a0:aA) (p7:Int) (p8:List ByteArray):Option ((Int × (List ByteArray)) ⊕ (Unit ⊕ Int)) :=
 if decide (p7 < (a0.Firms.length:Int)) = true then
  (at? a0.Firms p7).bind fun (x9:cF) =>
  if (p8.length + 1) * 16 <= 140737488355328 then
   (cZ (p8 ++ [x9.Name]) p7).bind fun (r10:Int) =>
   if (r10 != 0) = true then
    some (.inr (.inr (r10)))
   else
    (at? a0.Firms p7).bind fun (x11:cF) =>
    (aL x11.City 0 (IntKind.wrap .i64 ((a0.Cities.length:Int) - 1))).bind fun (r12:Bool) =>
    if (!(r12)) = true then
     some (.inr (.inr (1)))
    else
     (at? a0.Firms p7).bind fun (x13:cF) =>
     (aL x13.Group 0 (IntKind.wrap .i64 ((a0.Groups.length:Int) - 1))).bind fun (r14:Bool) =>
     if (!(r14)) = true then
      some (.inr (.inr (1)))
     else
      some (.inl (IntKind.wrap .i64 (p7 + 1),p8 ++ [x9.Name]))
  else none
 else
  some (.inr (.inl ()))
def n9 (a0:aA) (p7:Int) (p8:List ByteArray):Option (Unit ⊕ Int) :=
 b8 (fun (w:Int × (List ByteArray))=>eD a0 w.1 w.2) (p7,p8)
def lE (a0:aA):Option (Int) :=
 if decide ((a0.Groups.length:Int) > 20) = true then
  some 6
 else
  (oB a0 0).bind fun (r4:Unit ⊕ Unit)=>Sum.elim (fun z5 =>
  if decide ((a0.Firms.length:Int) > 200) = true then
    some 6
   else
    (n9 a0 0 []).bind fun (r16:Unit ⊕ Int)=>Sum.elim (fun z17 =>
    some 0) (fun z18 =>
    some z18) r16) (fun z6 =>
  some 1) r4
def cE (a0:aG) (p1:Int):Option ((Int) ⊕ (Unit ⊕ Unit)) :=
 if decide (p1 < (a0.Choices.length:Int)) = true then
  (at? a0.Choices p1).bind fun (x2:aM) =>
  (aL x2.Ask 0 21).bind fun (r3:Bool) =>
  if (!(r3)) = true then
   some (.inr (.inr (())))
  else
   (at? a0.Choices p1).bind fun (x4:aM) =>
   (aL x4.By 0 4).bind fun (r5:Bool) =>
   if (!(r5)) = true then
    some (.inr (.inr (())))
   else
    if decide (p1 > 0) = true then
     (at? a0.Choices (IntKind.wrap .i64 (p1 - 1))).bind fun (x6:aM) =>
     (at? a0.Choices p1).bind fun (x7:aM) =>
     if decide (x6.Ask ≥ x7.Ask) = true then
      some (.inr (.inr (())))
     else
      some (.inl (IntKind.wrap .i64 (p1 + 1)))
    else
     some (.inl (IntKind.wrap .i64 (p1 + 1)))
 else
  some (.inr (.inl ()))
def jW (a0:aG) (p1:Int):Option (Unit ⊕ Unit) :=
 b8 (fun (w:Int)=>cE a0 w) p1
def cC (a0:aG) (p11:Int):Option ((Int) ⊕ (Unit ⊕ Unit)) :=
 if decide (p11 < (a0.Rules.length:Int)) = true then
  (at? a0.Rules p11).bind fun (x12:a8) =>
  (aL x12.Ask 0 21).bind fun (r13:Bool) =>
  if (!(r13)) = true then
   some (.inr (.inr (())))
  else
   if decide (p11 > 0) = true then
    (at? a0.Rules (IntKind.wrap .i64 (p11 - 1))).bind fun (x14:a8) =>
    (at? a0.Rules p11).bind fun (x15:a8) =>
    if decide (x14.Ask ≥ x15.Ask) = true then
     some (.inr (.inr (())))
    else
     some (.inl (IntKind.wrap .i64 (p11 + 1)))
   else
    some (.inl (IntKind.wrap .i64 (p11 + 1)))
 else
  some (.inr (.inl ()))
def jY (a0:aG) (p11:Int):Option (Unit ⊕ Unit) :=
 b8 (fun (w:Int)=>cC a0 w) p11
def gP (a0:aG):Option (Bool) :=
 (jW a0 0).bind fun (r8:Unit ⊕ Unit)=>Sum.elim (fun z9 =>
 (jY a0 0).bind fun (r16:Unit ⊕ Unit)=>Sum.elim (fun z17 =>
  some true) (fun z18 =>
  some false) r16) (fun z10 =>
 some false) r8
def dV (a0:aA) (p1:Int) (p2:List ByteArray):Option ((Int × (List ByteArray)) ⊕ (Unit ⊕ Int)) :=
 if decide (p1 < (a0.Orders.length:Int)) = true then
  (at? a0.Orders p1).bind fun (x3:aG) =>
  if (p2.length + 1) * 16 <= 140737488355328 then
   (cZ (p2 ++ [x3.Name]) p1).bind fun (r4:Int) =>
   if (r4 != 0) = true then
    some (.inr (.inr (r4)))
   else
    (at? a0.Orders p1).bind fun (x5:aG) =>
    (gP x5).bind fun (r6:Bool) =>
    if (!(r6)) = true then
     some (.inr (.inr (1)))
    else
     some (.inl (IntKind.wrap .i64 (p1 + 1),p2 ++ [x3.Name]))
  else none
 else
  some (.inr (.inl ()))
def nF (a0:aA) (p1:Int) (p2:List ByteArray):Option (Unit ⊕ Int) :=
 b8 (fun (w:Int × (List ByteArray))=>dV a0 w.1 w.2) (p1,p2)
def jV (a0:aA):Option (Int) :=
 if decide ((a0.Orders.length:Int) > 20) = true then
  some 6
 else
  (nF a0 0 []).bind fun (r8:Unit ⊕ Int)=>Sum.elim (fun z9 =>
  some 0) (fun z10 =>
  some z10) r8
def dJ (a0:aA) (p1:Int) (x2:aW) (p6:Int):Option ((Int) ⊕ (Unit ⊕ Unit)) :=
 if decide (p6 < p1) = true then
  (at? a0.Usances p6).bind fun (x7:aW) =>
  if (x7.From == x2.From) = true then
   (at? a0.Usances p6).bind fun (x8:aW) =>
   if (x8.To == x2.To) = true then
    some (.inr (.inr (())))
   else
    some (.inl (IntKind.wrap .i64 (p6 + 1)))
  else
   some (.inl (IntKind.wrap .i64 (p6 + 1)))
 else
  some (.inr (.inl ()))
def mJ (a0:aA) (p1:Int) (x2:aW) (p6:Int):Option (Unit ⊕ Unit) :=
 b8 (fun (w:Int)=>dJ a0 p1 x2 w) p6
def dN (a0:aA) (p1:Int):Option ((Int) ⊕ (Unit ⊕ Int)) :=
 if decide (p1 < (a0.Usances.length:Int)) = true then
  (at? a0.Usances p1).bind fun (x2:aW) =>
  (aL x2.From 0 (IntKind.wrap .i64 ((a0.Cities.length:Int) - 1))).bind fun (r3:Bool) =>
  if (!(r3)) = true then
   some (.inr (.inr (1)))
  else
   (aL x2.To 0 (IntKind.wrap .i64 ((a0.Cities.length:Int) - 1))).bind fun (r4:Bool) =>
   if (!(r4)) = true then
    some (.inr (.inr (1)))
   else
    (aL x2.Days 1 20000).bind fun (r5:Bool) =>
    if (!(r5)) = true then
     some (.inr (.inr (1)))
    else
     (mJ a0 p1 x2 0).bind fun (r9:Unit ⊕ Unit)=>Sum.elim (fun z10 =>
     some (.inl (IntKind.wrap .i64 (p1 + 1)))) (fun z11 =>
     some (.inr (.inr (5)))) r9
 else
  some (.inr (.inl ()))
def qJ (a0:aA) (p1:Int):Option (Unit ⊕ Int) :=
 b8 (fun (w:Int)=>dN a0 w) p1
def jB (a0:aA):Option (Int) :=
 if decide ((a0.Usances.length:Int) > 100) = true then
  some 6
 else
  (qJ a0 0).bind fun (r13:Unit ⊕ Int)=>Sum.elim (fun z14 =>
  some 0) (fun z15 =>
  some z15) r13
def dY (a0:aA) (p1:Int):Option ((Int) ⊕ (Unit ⊕ Unit)) :=
 if decide (p1 < (a0.Rates.length:Int)) = true then
  (at? a0.Rates p1).bind fun (x2:bV) =>
  (aL x2.From 0 (IntKind.wrap .i64 ((a0.Currencies.length:Int) - 1))).bind fun (r3:Bool) =>
  if (!(r3)) = true then
   some (.inr (.inr (())))
  else
   (aL x2.To 0 (IntKind.wrap .i64 ((a0.Currencies.length:Int) - 1))).bind fun (r4:Bool) =>
   if (!(r4)) = true then
    some (.inr (.inr (())))
   else
    if (x2.From == x2.To) = true then
     some (.inr (.inr (())))
    else
     (aL x2.Num 1 1073741824).bind fun (r5:Bool) =>
     if (!(r5)) = true then
      some (.inr (.inr (())))
     else
      (aL x2.Den 1 1073741824).bind fun (r6:Bool) =>
      if (!(r6)) = true then
       some (.inr (.inr (())))
      else
       (aL x2.Since 0 100000).bind fun (r7:Bool) =>
       if (!(r7)) = true then
        some (.inr (.inr (())))
       else
        some (.inl (IntKind.wrap .i64 (p1 + 1)))
 else
  some (.inr (.inl ()))
def nH (a0:aA) (p1:Int):Option (Unit ⊕ Unit) :=
 b8 (fun (w:Int)=>dY a0 w) p1
def d8 (a0:aA) (p11:Int):Option ((Int) ⊕ (Unit ⊕ Unit)) :=
 if decide (p11 < (a0.Halts.length:Int)) = true then
  (at? a0.Halts p11).bind fun (x12:c9) =>
  (aL x12.Order 0 (IntKind.wrap .i64 ((a0.Orders.length:Int) - 1))).bind fun (r13:Bool) =>
  if (!(r13)) = true then
   some (.inr (.inr (())))
  else
   (aL x12.From 0 x12.To).bind fun (r14:Bool) =>
   if (!(r14)) = true then
    some (.inr (.inr (())))
   else
    if decide (x12.To > 100000) = true then
     some (.inr (.inr (())))
    else
     some (.inl (IntKind.wrap .i64 (p11 + 1)))
 else
  some (.inr (.inl ()))
def nD (a0:aA) (p11:Int):Option (Unit ⊕ Unit) :=
 b8 (fun (w:Int)=>d8 a0 w) p11
def jT (a0:aA):Option (Int) :=
 if decide ((a0.Rates.length:Int) > 100) = true then
  some 6
 else
  (nH a0 0).bind fun (r8:Unit ⊕ Unit)=>Sum.elim (fun z9 =>
  if decide ((a0.Halts.length:Int) > 20) = true then
    some 6
   else
    (nD a0 0).bind fun (r15:Unit ⊕ Unit)=>Sum.elim (fun z16 =>
    some 0) (fun z17 =>
    some 1) r15) (fun z10 =>
  some 1) r8
def k6 (a0:aA) (p7:Int):Option (Int) :=
 if (p7 == 0) = true then
  (jT a0).bind fun (r8:Int) =>
  some (r8)
 else
  some (p7)
def kQ (a0:aA) (p5:Int):Option (Int) :=
 if (p5 == 0) = true then
  (jB a0).bind fun (r6:Int) =>
  (k6 a0 r6).bind fun (r10:Int) =>
  some (r10)
 else
  (k6 a0 p5).bind fun (r11:Int) =>
  some (r11)
def kJ (a0:aA) (p3:Int):Option (Int) :=
 if (p3 == 0) = true then
  (jV a0).bind fun (r4:Int) =>
  (kQ a0 r4).bind fun (r13:Int) =>
  some (r13)
 else
  (kQ a0 p3).bind fun (r14:Int) =>
  some (r14)
def dS (a0:aA):Option (Int) :=
 (jP a0).bind fun (r1:Int) =>
 if (r1 == 0) = true then
  (lE a0).bind fun (r2:Int) =>
  (kJ a0 r2).bind fun (r16:Int) =>
  some r16
 else
  (kJ a0 r1).bind fun (r17:Int) =>
  some r17
def dX (a0:aA) (a1:List Int) (p1:Int):Option ((Int) ⊕ (Unit ⊕ Unit)) :=
 if decide (p1 < (a1.length:Int)) = true then
  (at? a1 p1).bind fun (x2:Int) =>
  (aL x2 0 (IntKind.wrap .i64 ((a0.Orders.length:Int) - 1))).bind fun (r3:Bool) =>
  if (!(r3)) = true then
   some (.inr (.inr (())))
  else
   some (.inl (IntKind.wrap .i64 (p1 + 1)))
 else
  some (.inr (.inl ()))
def nL (a0:aA) (a1:List Int) (p1:Int):Option (Unit ⊕ Unit) :=
 b8 (fun (w:Int)=>dX a0 a1 w) p1
def iD (a0:aA) (a1:List Int):Option (Bool) :=
 (nL a0 a1 0).bind fun (r4:Unit ⊕ Unit)=>Sum.elim (fun z5 =>
 some ((a1.length:Int) == 5)) (fun z6 =>
 some false) r4
def dU (a0:aG) (a1 p1:Int):Option ((Int) ⊕ (Unit ⊕ aM)) :=
 if decide (p1 < (a0.Choices.length:Int)) = true then
  (at? a0.Choices p1).bind fun (x2:aM) =>
  if (x2.Ask == a1) = true then
   (at? a0.Choices p1).bind fun (x3:aM) =>
   some (.inr (.inr (x3)))
  else
   some (.inl (IntKind.wrap .i64 (p1 + 1)))
 else
  some (.inr (.inl ()))
def m4 (a0:aG) (a1 p1:Int):Option (Unit ⊕ aM) :=
 b8 (fun (w:Int)=>dU a0 a1 w) p1
def jR (a0:aG) (a1:Int):Option (aM) :=
 (m4 a0 a1 0).bind fun (r5:Unit ⊕ aM)=>Sum.elim (fun z6 =>
 some (aM.mk a1 0 false)) (fun z7 =>
 some z7) r5
def k8 (a0:aA) (a1 a2:Int) (a3:List Int):Option (Int × Bool) :=
 (iD a0 a3).bind fun (r1:Bool) =>
 if (!(r1)) = true then
  some ((-1),false)
 else
  (aL a1 0 (IntKind.wrap .i64 ((a0.Orders.length:Int) - 1))).bind fun (r2:Bool) =>
  if (!(r2)) = true then
   some ((-1),false)
  else
   (aL a2 0 21).bind fun (r3:Bool) =>
   if (!(r3)) = true then
    some ((-1),false)
   else
    (at? a0.Orders a1).bind fun (x4:aG) =>
    (jR x4 a2).bind fun (r5:aM) =>
    if (r5.By == 0) = true then
     some (a1,false)
    else
     (at? a3 r5.By).bind fun (x6:Int) =>
     some (x6,r5.Whole)
def jS (a0:aA) (a2:Int) (a3:List Int) (p6:Int) (p7:List Bool) (p8:List Int) (r10:Int × Bool):Option (Unit ⊕ Unit) :=
 if 0 <= r10.1 ∧ r10.1.toNat < p7.length then
  (p7[r10.1.toNat]?).bind fun (x14:Bool) =>
  if x14 = true then
   some (.inr (()))
  else
   if 0 <= r10.1 ∧ r10.1.toNat < p7.length then
    (p7[r10.1.toNat]?).bind fun (x15:Bool) =>
    some (.inl ())
   else none
 else none
def iQ (a0:aA) (a2:Int) (a3:List Int) (p6:Int) (p7:List Bool) (p8:List Int):Option ((Int × (List Bool) × (List Int)) ⊕ (((List Int)) ⊕ (Int × (List Int)))) :=
 if decide (p6 <= (a0.Orders.length:Int)) = true then
  if 0 <= (IntKind.wrap .i64 ((p8.length:Int) - 1)) ∧ (IntKind.wrap .i64 ((p8.length:Int) - 1)).toNat < p8.length then
   (p8[(IntKind.wrap .i64 ((p8.length:Int) - 1)).toNat]?).bind fun (x9:Int) =>
   (k8 a0 x9 a2 a3).bind fun (r10:Int × Bool) =>
   if 0 <= (IntKind.wrap .i64 ((p8.length:Int) - 1)) ∧ (IntKind.wrap .i64 ((p8.length:Int) - 1)).toNat < p8.length then
    (p8[(IntKind.wrap .i64 ((p8.length:Int) - 1)).toNat]?).bind fun (x11:Int) =>
    if (r10.1 == x11) = true then
     some (.inr (.inr ((0,p8))))
    else
     if (p8.length + 1) * 8 <= 140737488355328 then
      if (!(r10.2)) = true then
       some (.inr (.inr ((0,p8 ++ [r10.1]))))
      else
       if 0 <= r10.1 ∧ r10.1.toNat < p7.length then
        (p7[r10.1.toNat]?).bind fun (x12:Bool) =>
        if x12 = true then
         (at? a0.Orders r10.1).bind fun (x13:aG) =>
         if x13.Accepts = true then
          some (.inr (.inr ((0,p8 ++ [r10.1]))))
         else
          (jS a0 a2 a3 p6 p7 p8 r10).bind fun (r16:Unit ⊕ Unit)=>Sum.elim (fun z17 =>
          some (.inl (IntKind.wrap .i64 (p6 + 1),p7.set r10.1.toNat true,p8 ++ [r10.1]))) (fun z18 =>
          some (.inr (.inr ((12,p8 ++ [r10.1]))))) r16
        else
         (jS a0 a2 a3 p6 p7 p8 r10).bind fun (r19:Unit ⊕ Unit)=>Sum.elim (fun z20 =>
         some (.inl (IntKind.wrap .i64 (p6 + 1),p7.set r10.1.toNat true,p8 ++ [r10.1]))) (fun z21 =>
         some (.inr (.inr ((12,p8 ++ [r10.1]))))) r19
       else none
     else none
   else none
  else none
 else
  some (.inr (.inl p8))
def mT (a0:aA) (a2:Int) (a3:List Int) (p6:Int) (p7:List Bool) (p8:List Int):Option (((List Int)) ⊕ (Int × (List Int))) :=
 b8 (fun (w:Int × (List Bool) × (List Int))=>iQ a0 a2 a3 w.1 w.2.1 w.2.2) (p6,p7,p8)
def iZ (a0:aA) (a1 a2:Int) (a3:List Int):Option ((List Int) × Int) :=
 (iD a0 a3).bind fun (r1:Bool) =>
 if (!(r1)) = true then
  some ([],1)
 else
  (aL a1 0 (IntKind.wrap .i64 ((a0.Orders.length:Int) - 1))).bind fun (r2:Bool) =>
  if (!(r2)) = true then
   some ([],1)
  else
   (aL a2 0 21).bind fun (r3:Bool) =>
   if (!(r3)) = true then
    some ([],1)
   else
    (at? a3 0).bind fun (x4:Int) =>
    if (x4 != a1) = true then
     some ([],1)
    else
     if 0 <= (a0.Orders.length:Int) ∧ (a0.Orders.length:Int) <= (a0.Orders.length:Int) ∧ 1 * (a0.Orders.length:Int) <= 281474976710656 ∧ (a0.Orders.length:Int) <= 9223372036854775807 then
      if 0 <= a1 ∧ a1.toNat < (List.replicate ((a0.Orders.length:Int).toNat) (false:Bool)).length then
       ((List.replicate ((a0.Orders.length:Int).toNat) (false:Bool))[a1.toNat]?).bind fun (x5:Bool) =>
       (mT a0 a2 a3 0 ((List.replicate ((a0.Orders.length:Int).toNat) (false:Bool)).set a1.toNat true) [a1]).bind fun (r25:((List Int)) ⊕ (Int × (List Int)))=>Sum.elim (fun z26 =>
       some (z26,12)) (fun z27 =>
       some (z27.2,z27.1)) r25
      else none
     else none
def fF (a0:aG) (a1 p1:Int):Option ((Int) ⊕ (Unit ⊕ Int)) :=
 if decide (p1 < (a0.Rules.length:Int)) = true then
  (at? a0.Rules p1).bind fun (x2:a8) =>
  if (x2.Ask == a1) = true then
   some (.inr (.inr (p1)))
  else
   some (.inl (IntKind.wrap .i64 (p1 + 1)))
 else
  some (.inr (.inl ()))
def o8 (a0:aG) (a1 p1:Int):Option (Unit ⊕ Int) :=
 b8 (fun (w:Int)=>fF a0 a1 w) p1
def mA (a0:aG) (a1:Int):Option (Int) :=
 (o8 a0 a1 0).bind fun (r4:Unit ⊕ Int)=>Sum.elim (fun z5 =>
 some (-1)) (fun z6 =>
 some z6) r4
def dL (a0:aA) (a1 a2:Int) (a3:List Int):Option (Int × (List Int)) :=
 (iZ a0 a1 a2 a3).bind fun (r1:(List Int) × Int) =>
 if (r1.2 == 12) = true then
  some (1,r1.1)
 else
  if (r1.2 != 0) = true then
   some ((-1),r1.1)
  else
   if ((r1.1.length:Int) == 0) = true then
    some ((-1),r1.1)
   else
    (at? r1.1 (IntKind.wrap .i64 ((r1.1.length:Int) - 1))).bind fun (x2:Int) =>
    (at? a0.Orders x2).bind fun (x3:aG) =>
    (mA x3 a2).bind fun (r4:Int) =>
    if decide (r4 < 0) = true then
     some (0,r1.1)
    else
     some ((-1),r1.1)
def cH (a0 a1:List Int) (p1:Int):Option ((Int) ⊕ (Unit ⊕ Bool)) :=
 if decide (p1 < (a0.length:Int)) = true then
  if decide (p1 < (a1.length:Int)) = true then
   (at? a0 p1).bind fun (x2:Int) =>
   (at? a1 p1).bind fun (x3:Int) =>
   if (x2 != x3) = true then
    (at? a0 p1).bind fun (x4:Int) =>
    (at? a1 p1).bind fun (x5:Int) =>
    some (.inr (.inr (decide (x4 < x5))))
   else
    some (.inl (IntKind.wrap .i64 (p1 + 1)))
  else
   some (.inr (.inl ()))
 else
  some (.inr (.inl ()))
def o7 (a0 a1:List Int) (p1:Int):Option (Unit ⊕ Bool) :=
 b8 (fun (w:Int)=>cH a0 a1 w) p1
def eO (a0 a1:List Int):Option (Bool) :=
 (o7 a0 a1 0).bind fun (r7:Unit ⊕ Bool)=>Sum.elim (fun z8 =>
 some (decide ((a0.length:Int) < (a1.length:Int)))) (fun z9 =>
 some z9) r7
def fS (a0 a1:aB):Option (Bool) :=
 if ((a0.Path.length:Int) != (a1.Path.length:Int)) = true then
  some (decide ((a0.Path.length:Int) < (a1.Path.length:Int)))
 else
  (eO a0.Path a1.Path).bind fun (r1:Bool) =>
  if r1 = true then
   (eO a0.Path a1.Path).bind fun (r3:Bool) =>
   some r3
  else
   (eO a1.Path a0.Path).bind fun (r2:Bool) =>
   if r2 = true then
    (eO a0.Path a1.Path).bind fun (r4:Bool) =>
    some r4
   else
    (eO a0.Places a1.Places).bind fun (r5:Bool) =>
    some r5
def dD (a0:aA) (a1 a2 a3 p1:Int):Option ((Int) ⊕ ((Int × (List Int) × (List Int)) ⊕ Unit)) :=
 if decide (p1 < (IntKind.wrap .i64 ((IntKind.wrap .i64 ((IntKind.wrap .i64 ((a0.Orders.length:Int) * (a0.Orders.length:Int))) * (a0.Orders.length:Int))) * (a0.Orders.length:Int)))) = true then
  if (a0.Orders.length:Int) = 0 then
   none
  else
   if (a0.Orders.length:Int) = 0 then
    none
   else
    if (a0.Orders.length:Int) = 0 then
     none
    else
     if (IntKind.wrap .i64 ((a0.Orders.length:Int) * (a0.Orders.length:Int))) = 0 then
      none
     else
      if (a0.Orders.length:Int) = 0 then
       none
      else
       if (IntKind.wrap .i64 ((IntKind.wrap .i64 ((a0.Orders.length:Int) * (a0.Orders.length:Int))) * (a0.Orders.length:Int))) = 0 then
        none
       else
        (dL a0 a1 a2 [a1,p1.tmod (a0.Orders.length:Int),(IntKind.wrap .i64 (p1.tdiv (a0.Orders.length:Int))).tmod (a0.Orders.length:Int),(IntKind.wrap .i64 (p1.tdiv (IntKind.wrap .i64 ((a0.Orders.length:Int) * (a0.Orders.length:Int))))).tmod (a0.Orders.length:Int),IntKind.wrap .i64 (p1.tdiv (IntKind.wrap .i64 ((IntKind.wrap .i64 ((a0.Orders.length:Int) * (a0.Orders.length:Int))) * (a0.Orders.length:Int))))]).bind fun (r2:Int × (List Int)) =>
        if (r2.1 == a3) = true then
         some (.inr (.inl (IntKind.wrap .i64 (p1 + 1),[a1,p1.tmod (a0.Orders.length:Int),(IntKind.wrap .i64 (p1.tdiv (a0.Orders.length:Int))).tmod (a0.Orders.length:Int),(IntKind.wrap .i64 (p1.tdiv (IntKind.wrap .i64 ((a0.Orders.length:Int) * (a0.Orders.length:Int))))).tmod (a0.Orders.length:Int),IntKind.wrap .i64 (p1.tdiv (IntKind.wrap .i64 ((IntKind.wrap .i64 ((a0.Orders.length:Int) * (a0.Orders.length:Int))) * (a0.Orders.length:Int))))],r2.2)))
        else
         some (.inl (IntKind.wrap .i64 (p1 + 1)))
 else
  some (.inr (.inr (())))
def oH (a0:aA) (a1 a2 a3 p1:Int):Option ((Int × (List Int) × (List Int)) ⊕ Unit) :=
 b8 (fun (w:Int)=>dD a0 a1 a2 a3 w) p1
def dC (a0:aA) (a1 a2 a3 p9:Int) (p10 p11:List Int):Option ((Int × (List Int) × (List Int)) ⊕ ((List Int) × (List Int))) :=
 if decide (p9 < (IntKind.wrap .i64 ((IntKind.wrap .i64 ((IntKind.wrap .i64 ((a0.Orders.length:Int) * (a0.Orders.length:Int))) * (a0.Orders.length:Int))) * (a0.Orders.length:Int)))) = true then
  if (a0.Orders.length:Int) = 0 then
   none
  else
   if (a0.Orders.length:Int) = 0 then
    none
   else
    if (a0.Orders.length:Int) = 0 then
     none
    else
     if (IntKind.wrap .i64 ((a0.Orders.length:Int) * (a0.Orders.length:Int))) = 0 then
      none
     else
      if (a0.Orders.length:Int) = 0 then
       none
      else
       if (IntKind.wrap .i64 ((IntKind.wrap .i64 ((a0.Orders.length:Int) * (a0.Orders.length:Int))) * (a0.Orders.length:Int))) = 0 then
        none
       else
        (dL a0 a1 a2 [a1,p9.tmod (a0.Orders.length:Int),(IntKind.wrap .i64 (p9.tdiv (a0.Orders.length:Int))).tmod (a0.Orders.length:Int),(IntKind.wrap .i64 (p9.tdiv (IntKind.wrap .i64 ((a0.Orders.length:Int) * (a0.Orders.length:Int))))).tmod (a0.Orders.length:Int),IntKind.wrap .i64 (p9.tdiv (IntKind.wrap .i64 ((IntKind.wrap .i64 ((a0.Orders.length:Int) * (a0.Orders.length:Int))) * (a0.Orders.length:Int))))]).bind fun (r12:Int × (List Int)) =>
        if (r12.1 == a3) = true then
         (fS (aB.mk a3 a1 a2 [a1,p9.tmod (a0.Orders.length:Int),(IntKind.wrap .i64 (p9.tdiv (a0.Orders.length:Int))).tmod (a0.Orders.length:Int),(IntKind.wrap .i64 (p9.tdiv (IntKind.wrap .i64 ((a0.Orders.length:Int) * (a0.Orders.length:Int))))).tmod (a0.Orders.length:Int),IntKind.wrap .i64 (p9.tdiv (IntKind.wrap .i64 ((IntKind.wrap .i64 ((a0.Orders.length:Int) * (a0.Orders.length:Int))) * (a0.Orders.length:Int))))] r12.2) (aB.mk a3 a1 a2 p10 p11)).bind fun (r13:Bool) =>
         if r13 = true then
          some (.inl (IntKind.wrap .i64 (p9 + 1),[a1,p9.tmod (a0.Orders.length:Int),(IntKind.wrap .i64 (p9.tdiv (a0.Orders.length:Int))).tmod (a0.Orders.length:Int),(IntKind.wrap .i64 (p9.tdiv (IntKind.wrap .i64 ((a0.Orders.length:Int) * (a0.Orders.length:Int))))).tmod (a0.Orders.length:Int),IntKind.wrap .i64 (p9.tdiv (IntKind.wrap .i64 ((IntKind.wrap .i64 ((a0.Orders.length:Int) * (a0.Orders.length:Int))) * (a0.Orders.length:Int))))],r12.2))
         else
          some (.inl (IntKind.wrap .i64 (p9 + 1),p10,p11))
        else
         some (.inl (IntKind.wrap .i64 (p9 + 1),p10,p11))
 else
  some (.inr ((p10,p11)))
def n6 (a0:aA) (a1 a2 a3 p9:Int) (p10 p11:List Int):Option ((List Int) × (List Int)) :=
 b8 (fun (w:Int × (List Int) × (List Int))=>dC a0 a1 a2 a3 w.1 w.2.1 w.2.2) (p9,p10,p11)
def eY (a0:aA) (a1 a2 a3:Int):Option (aB × Bool) :=
 (oH a0 a1 a2 a3 0).bind fun (r6:(Int × (List Int) × (List Int)) ⊕ Unit)=>Sum.elim (fun z7 =>
 (n6 a0 a1 a2 a3 z7.1 z7.2.1 z7.2.2).bind fun (r16:(List Int) × (List Int)) =>
  some ((aB.mk a3 a1 a2 r16.1 r16.2),true)) (fun z8 =>
 some ((aB.mk 0 0 0 [] []),false)) r6
def eN (a0:aA) (p2 p4 p6:Int) (p7:List aB):Option ((Int × (List aB)) ⊕ ((List aB))) :=
 if decide (p6 < 2) = true then
  (eY a0 p2 p4 p6).bind fun (r8:aB × Bool) =>
  if r8.2 = true then
   if (p7.length + 1) * 72 <= 140737488355328 then
    some (.inl (IntKind.wrap .i64 (p6 + 1),p7 ++ [r8.1]))
   else none
  else
   some (.inl (IntKind.wrap .i64 (p6 + 1),p7))
 else
  some (.inr (p7))
def kN (a0:aA) (p2 p4 p6:Int) (p7:List aB):Option ((List aB)) :=
 b8 (fun (w:Int × (List aB))=>eN a0 p2 p4 w.1 w.2) (p6,p7)
def eJ (a0:aA) (p2 p4:Int) (p5:List aB):Option ((Int × (List aB)) ⊕ ((List aB))) :=
 if decide (p4 < 22) = true then
  (kN a0 p2 p4 0 p5).bind fun (r10:(List aB)) =>
  some (.inl (IntKind.wrap .i64 (p4 + 1),r10))
 else
  some (.inr (p5))
def kA (a0:aA) (p2 p4:Int) (p5:List aB):Option ((List aB)) :=
 b8 (fun (w:Int × (List aB))=>eJ a0 p2 w.1 w.2) (p4,p5)
def eH (a0:aA) (p2:Int) (p3:List aB):Option ((Int × (List aB)) ⊕ ((List aB))) :=
 if decide (p2 < (a0.Orders.length:Int)) = true then
  (kA a0 p2 0 p3).bind fun (r12:(List aB)) =>
  some (.inl (IntKind.wrap .i64 (p2 + 1),r12))
 else
  some (.inr (p3))
def oD (a0:aA) (p2:Int) (p3:List aB):Option ((List aB)) :=
 b8 (fun (w:Int × (List aB))=>eH a0 w.1 w.2) (p2,p3)
def e8 (a0:aA):Option ((List aB) × Int) :=
 (dS a0).bind fun (r1:Int) =>
 if (r1 != 0) = true then
  some ([],r1)
 else
  (oD a0 0 []).bind fun (r14:(List aB)) =>
  some (r14,0)
def eS (a0:aA) (a1:aB):Option (Bool) :=
 (dS a0).bind fun (r1:Int) =>
 if (r1 != 0) = true then
  some false
 else
  (dL a0 a1.Forum a1.Ask a1.Places).bind fun (r2:Int × (List Int)) =>
  if decide (r2.1 ≥ 0) = true then
   if (r2.1 == a1.Kind) = true then
    (eB r2.2 a1.Path).bind fun (r3:Bool) =>
    some r3
   else
    some false
  else
   some false
def gS (a0:aA):Option (Bool) :=
 (e8 a0).bind fun (r1:(List aB) × Int) =>
 if (r1.2 == 0) = true then
  some ((r1.1.length:Int) == 0)
 else
  some false
def jC (a0:aA) (a1:aB):Option (Bool) :=
 (iV).bind fun (r1:Bool) =>
 (nE a0).bind fun (r2:Bool) =>
 if (!(r2)) = true then
  some r1
 else
  if decide ((a1.Places.length:Int) > 20) = true then
   some r1
  else
   if decide ((a1.Path.length:Int) > 20) = true then
    some r1
   else
    (n0 a0).bind fun (r3:(List aB) × Int) =>
    (e8 a0).bind fun (r4:(List aB) × Int) =>
    if r1 = true then
     (gT r3.1 r4.1).bind fun (r5:Bool) =>
     if r5 = true then
      if (r3.2 == r4.2) = true then
       (fX a0 a1).bind fun (r6:Bool) =>
       (eS a0 a1).bind fun (r7:Bool) =>
       if (r6 == r7) = true then
        (oA a0).bind fun (r8:Bool) =>
        (gS a0).bind fun (r9:Bool) =>
        some (r8 == r9)
       else
        some false
      else
       some false
     else
      some false
    else
     some false
end
end Go.Proofs.Ytjjcaapdaldedaa
