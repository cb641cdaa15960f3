/- What the functions compute, as plain definitions. Printed by a program. -/
import Derived.Test.YtgjcnbgfaimepaaTab
set_option linter.unusedVariables false
set_option linter.unusedSimpArgs false
namespace Go.Proofs.Ytgjcnbgfaimepaa
noncomputable section
open Vm
open Go.RowKit
def mR:Option ((List aE)) :=
 some [(aE.mk 0 1 5 0 0 0 []),(aE.mk 1 2 5 0 0 0 [(aJ.mk 0 7)]),(aE.mk 2 0 5 0 0 0 []),(aE.mk 1 0 2 0 0 0 [(aJ.mk 3 1)])]
def vO (a0:aE):Option (aH) :=
 some (aH.mk a0.From a0.To a0.Sum)
def nX (a0 a1:Int):Option (Bool) :=
 if decide (a0 ≥ 0) = true then
  some (decide (a0 < a1))
 else
  some false
def dS (a0:Int) (a1:List aH) (p1:Int):Option ((Int) ⊕ (Unit ⊕ Unit)) :=
 if decide (p1 < (a1.length:Int)) = true then
  (at? a1 p1).bind fun (x2:aH) =>
  if decide (x2.From < 0) = true then
   some (.inr (.inr (())))
  else
   if decide (x2.From ≥ a0) = true then
    some (.inr (.inr (())))
   else
    if decide (x2.To < 0) = true then
     some (.inr (.inr (())))
    else
     if decide (x2.To ≥ a0) = true then
      some (.inr (.inr (())))
     else
      if (x2.From == x2.To) = true then
       some (.inr (.inr (())))
      else
       if decide (x2.Sum < 1) = true then
        some (.inr (.inr (())))
       else
        if decide (x2.Sum > 1099511627776) = true then
         some (.inr (.inr (())))
        else
         some (.inl (IntKind.wrap .i64 (p1 + 1)))
 else
  some (.inr (.inl ()))
def l9 (a0:Int) (a1:List aH) (p1:Int):Option (Unit ⊕ Unit) :=
 dK (fun (w:Int)=>dS a0 a1 w) p1
def jF (a0:Int) (a1:List aH):Option (Bool) :=
 if decide (a0 < 0) = true then
  some false
 else
  if decide (a0 > 40) = true then
   some false
  else
   if decide ((a1.length:Int) > 100) = true then
    some false
   else
    (l9 a0 a1 0).bind fun (r3:Unit ⊕ Unit)=>Sum.elim (fun z4 =>
    some true) (fun z5 =>
    some false) r3
def fA (a0:Int) (a1:List aE) (p1:Int) (p2:List aH) (r4:aH) (x3:aE) (p8:Int):Option ((Int) ⊕ (Unit ⊕ Unit)) :=
 if decide (p8 < (x3.Rights.length:Int)) = true then
  (at? x3.Rights p8).bind fun (x9:aJ) =>
  (nX x9.Kind 4).bind fun (r10:Bool) =>
  if (!(r10)) = true then
   some (.inr (.inr (())))
  else
   (nX x9.Owner 200).bind fun (r11:Bool) =>
   if (!(r11)) = true then
    some (.inr (.inr (())))
   else
    some (.inl (IntKind.wrap .i64 (p8 + 1)))
 else
  some (.inr (.inl ()))
def pB (a0:Int) (a1:List aE) (p1:Int) (p2:List aH) (r4:aH) (x3:aE) (p8:Int):Option (Unit ⊕ Unit) :=
 dK (fun (w:Int)=>fA a0 a1 p1 p2 r4 x3 w) p8
def fC (a0:Int) (a1:List aE) (p1:Int) (p2:List aH):Option ((Int × (List aH)) ⊕ (((List aH)) ⊕ Unit)) :=
 if decide (p1 < (a1.length:Int)) = true then
  (at? a1 p1).bind fun (x3:aE) =>
  (vO x3).bind fun (r4:aH) =>
  if (p2.length + 1) * 24 <= 140737488355328 then
   (nX x3.File 50).bind fun (r5:Bool) =>
   if (!(r5)) = true then
    some (.inr (.inr (())))
   else
    (nX x3.Part 4).bind fun (r6:Bool) =>
    if (!(r6)) = true then
     some (.inr (.inr (())))
    else
     (nX x3.Sign 40).bind fun (r7:Bool) =>
     if (!(r7)) = true then
      some (.inr (.inr (())))
     else
      if decide ((x3.Rights.length:Int) > 8) = true then
       some (.inr (.inr (())))
      else
       (pB a0 a1 p1 p2 r4 x3 0).bind fun (r12:Unit ⊕ Unit)=>Sum.elim (fun z13 =>
       some (.inl (IntKind.wrap .i64 (p1 + 1),p2 ++ [r4]))) (fun z14 =>
       some (.inr (.inr (())))) r12
  else none
 else
  some (.inr (.inl p2))
def oR (a0:Int) (a1:List aE) (p1:Int) (p2:List aH):Option (((List aH)) ⊕ Unit) :=
 dK (fun (w:Int × (List aH))=>fC a0 a1 w.1 w.2) (p1,p2)
def j6 (a0:Int) (a1:List aE):Option (Int) :=
 (oR a0 a1 0 []).bind fun (r16:((List aH)) ⊕ Unit)=>Sum.elim (fun z17 =>
 (jF a0 z17).bind fun (r19:Bool) =>
  if (!(r19)) = true then
   some 1
  else
   some 0) (fun z18 =>
 some 1) r16
def fG (a0:List Int) (p1 p2:Int):Option ((Int × Int) ⊕ (Unit ⊕ Unit)) :=
 if decide (p2 < (a0.length:Int)) = true then
  (at? a0 p2).bind fun (x3:Int) =>
  if decide (x3 <= p1) = true then
   some (.inr (.inr (())))
  else
   if decide (x3 ≥ 200) = true then
    some (.inr (.inr (())))
   else
    some (.inl (x3,IntKind.wrap .i64 (p2 + 1)))
 else
  some (.inr (.inl ()))
def sI (a0:List Int) (p1 p2:Int):Option (Unit ⊕ Unit) :=
 dK (fun (w:Int × Int)=>fG a0 w.1 w.2) (p1,p2)
def nU (a0:List Int):Option (Bool) :=
 (sI a0 (-1) 0).bind fun (r4:Unit ⊕ Unit)=>Sum.elim (fun z5 =>
 some true) (fun z6 =>
 some false) r4
def bZ (a0:List Int) (a1 p1:Int):Option ((Int) ⊕ (Unit ⊕ Int)) :=
 if decide (p1 < (a0.length:Int)) = true then
  (at? a0 p1).bind fun (x2:Int) =>
  if (a1 == x2) = true then
   some (.inr (.inr (p1)))
  else
   some (.inl (IntKind.wrap .i64 (p1 + 1)))
 else
  some (.inr (.inl ()))
def jZ (a0:List Int) (a1 p1:Int):Option (Unit ⊕ Int) :=
 dK (fun (w:Int)=>bZ a0 a1 w) p1
def gW (a0:List Int) (a1:Int):Option (Int) :=
 (jZ a0 a1 0).bind fun (r4:Unit ⊕ Int)=>Sum.elim (fun z5 =>
 some (-1)) (fun z6 =>
 some z6) r4
def c8 (a0:List Int) (a1:Int):Option (Bool) :=
 (gW a0 a1).bind fun (r1:Int) =>
 some (decide (r1 ≥ 0))
def nK (a0:aJ) (a1:List Int):Option (Bool) :=
 (c8 a1 a0.Owner).bind fun (r1:Bool) =>
 some (!(r1))
def aS (a0:List aJ) (a1:List Int) (p1:Int):Option ((Int) ⊕ (Unit ⊕ Int)) :=
 if decide (p1 < (a0.length:Int)) = true then
  (at? a0 p1).bind fun (x2:aJ) =>
  (nK x2 a1).bind fun (r3:Bool) =>
  if r3 = true then
   some (.inr (.inr (p1)))
  else
   some (.inl (IntKind.wrap .i64 (p1 + 1)))
 else
  some (.inr (.inl ()))
def cV (a0:List aJ) (a1:List Int) (p1:Int):Option (Unit ⊕ Int) :=
 dK (fun (w:Int)=>aS a0 a1 w) p1
def cD (a0:List aJ) (a1:List Int):Option (Int) :=
 (cV a0 a1 0).bind fun (r5:Unit ⊕ Int)=>Sum.elim (fun z6 =>
 some (-1)) (fun z7 =>
 some z7) r5
def bX (a0:List aJ) (a1:List Int):Option (Bool) :=
 (cD a0 a1).bind fun (r1:Int) =>
 some (decide (r1 ≥ 0))
def qM (a0:aE) (a1:List Int):Option (Bool) :=
 (bX a0.Rights a1).bind fun (r1:Bool) =>
 some (!(r1))
def jV (a0:List aH) (a1:List Int) (p1:Int) (x3:aH) (p6:List aC):Option ((List aC)) :=
 (at? a1 p1).bind fun (x7:Int) =>
 if decide (x7 > 0) = true then
  (at? a1 p1).bind fun (x8:Int) =>
  if (p6.length + 1) * 48 <= 140737488355328 then
   some (p6 ++ [(aC.mk p1 x3.To x3.From 1 x8 true)])
  else none
 else
  some (p6)
def dA (a0:List aH) (a1:List Int) (p1:Int) (p2:List aC):Option ((Int × (List aC)) ⊕ ((List aC))) :=
 if decide (p1 < (a0.length:Int)) = true then
  (at? a0 p1).bind fun (x3:aH) =>
  (at? a1 p1).bind fun (x4:Int) =>
  if decide (x4 < x3.Sum) = true then
   (at? a1 p1).bind fun (x5:Int) =>
   if (p2.length + 1) * 48 <= 140737488355328 then
    (jV a0 a1 p1 x3 (p2 ++ [(aC.mk p1 x3.From x3.To (-1) (IntKind.wrap .i64 (x3.Sum - x5)) false)])).bind fun (r10:(List aC)) =>
    some (.inl (IntKind.wrap .i64 (p1 + 1),r10))
   else none
  else
   (jV a0 a1 p1 x3 p2).bind fun (r11:(List aC)) =>
   some (.inl (IntKind.wrap .i64 (p1 + 1),r11))
 else
  some (.inr (p2))
def pN (a0:List aH) (a1:List Int) (p1:Int) (p2:List aC):Option ((List aC)) :=
 dK (fun (w:Int × (List aC))=>dA a0 a1 w.1 w.2) (p1,p2)
def gA (a0:List aH) (a1:List Int):Option ((List aC)) :=
 (pN a0 a1 0 []).bind fun (r13:(List aC)) =>
 some r13
def gF (a0:List Int) (a1:Int):Option ((List Int)):=aTH a0 a1
def gJ (a0:aD) (a1:aC):Option (aD) :=
 some (aD.mk (IntKind.wrap .i64 (a0.c + a1.cost)) (IntKind.wrap .i64 (a0.steps + 1)) a0.fine)
def eZ (a0 a1:aD):Option (Bool) :=
 if a0.fine = true then
  if (!(a1.fine)) = true then
   some true
  else
   if decide (a0.c < a1.c) = true then
    some true
   else
    if (a0.c == a1.c) = true then
     some (decide (a0.steps < a1.steps))
    else
     some false
 else
  some false
def b9 (a0:Int) (a1:List aC) (a2:List Int) (p1:Int) (p2:List aD):Option ((Int × (List aD)) ⊕ ((List aD))) :=
 if decide (p1 < a0) = true then
  (at? a2 p1).bind fun (x3:Int) =>
  if 0 <= p1 ∧ p1.toNat < p2.length then
   (p2[p1.toNat]?).bind fun (x4:aD) =>
   some (.inl (IntKind.wrap .i64 (p1 + 1),p2.set p1.toNat (aD.mk x4.c x4.steps (decide (x3 > 0)))))
  else none
 else
  some (.inr (p2))
def jS (a0:Int) (a1:List aC) (a2:List Int) (p1:Int) (p2:List aD):Option ((List aD)) :=
 dK (fun (w:Int × (List aD))=>b9 a0 a1 a2 w.1 w.2) (p1,p2)
def dL (a1:List aC) (p11:Bool) (p12:Int) (p13:List aD) (p14:List Int):Option ((Bool × Int × (List aD) × (List Int)) ⊕ (Bool × (List aD) × (List Int))) :=
 if decide (p12 < (a1.length:Int)) = true then
  (at? a1 p12).bind fun (x15:aC) =>
  if 0 <= x15.from_ ∧ x15.from_.toNat < p13.length then
   (p13[x15.from_.toNat]?).bind fun (x16:aD) =>
   (gJ x16 x15).bind fun (r17:aD) =>
   if 0 <= x15.to ∧ x15.to.toNat < p13.length then
    (p13[x15.to.toNat]?).bind fun (x18:aD) =>
    (eZ r17 x18).bind fun (r19:Bool) =>
    if r19 = true then
     if 0 <= x15.to ∧ x15.to.toNat < p13.length then
      (p13[x15.to.toNat]?).bind fun (x20:aD) =>
      if 0 <= x15.to ∧ x15.to.toNat < p14.length then
       (p14[x15.to.toNat]?).bind fun (x21:Int) =>
       some (.inl (true,IntKind.wrap .i64 (p12 + 1),p13.set x15.to.toNat r17,p14.set x15.to.toNat p12))
      else none
     else none
    else
     some (.inl (p11,IntKind.wrap .i64 (p12 + 1),p13,p14))
   else none
  else none
 else
  some (.inr ((p11,p13,p14)))
def jQ (a1:List aC) (p11:Bool) (p12:Int) (p13:List aD) (p14:List Int):Option (Bool × (List aD) × (List Int)) :=
 dK (fun (w:Bool × Int × (List aD) × (List Int))=>dL a1 w.1 w.2.1 w.2.2.1 w.2.2.2) (p11,p12,p13,p14)
def fQ (a1:List aC) (p8:Bool) (p9:List aD) (p10:List Int):Option ((Bool × (List aD) × (List Int)) ⊕ ((List aD) × (List Int))) :=
 if p8 = true then
  (jQ a1 false 0 p9 p10).bind fun (r25:Bool × (List aD) × (List Int)) =>
  some (.inl (r25.1,r25.2.1,r25.2.2))
 else
  some (.inr ((p9,p10)))
def jT (a1:List aC) (p8:Bool) (p9:List aD) (p10:List Int):Option ((List aD) × (List Int)) :=
 dK (fun (w:Bool × (List aD) × (List Int))=>fQ a1 w.1 w.2.1 w.2.2) (p8,p9,p10)
def fX (a0:Int) (a1:List aC) (a2:List Int):Option ((List aD) × (List Int)) :=
 if 0 <= a0 ∧ a0 <= a0 ∧ 24 * a0 <= 281474976710656 ∧ a0 <= 9223372036854775807 then
  (jS a0 a1 a2 0 (List.replicate a0.toNat ((aD.mk 0 0 false):aD))).bind fun (r6:(List aD)) =>
  (gF [(-1)] (r6.length:Int)).bind fun (r7:(List Int)) =>
  (jT a1 true r6 r7).bind fun (r28:(List aD) × (List Int)) =>
  some (r28.1,r28.2)
 else none
def fN (a0:aC) (a1:List Int) (p1:Int):Option ((List Int)) :=
 if 0 <= a0.due ∧ a0.due.toNat < a1.length then
  (a1[a0.due.toNat]?).bind fun (x2:Int) =>
  if 0 <= a0.due ∧ a0.due.toNat < a1.length then
   (a1[a0.due.toNat]?).bind fun (x3:Int) =>
   some (a1.set a0.due.toNat (IntKind.wrap .i64 (x2 + p1)))
  else none
 else none
def eX (a0:aC) (a1:List Int) (a2:Int):Option ((List Int)) :=
 if a0.back = true then
  (fN a0 a1 (IntKind.wrap .i64 (0 - a2))).bind fun (r5:(List Int)) =>
  some r5
 else
  (fN a0 a1 a2).bind fun (r6:(List Int)) =>
  some r6
def cN (a0:Int) (a1:List aH) (a2:List Int) (p1:Int) (p2:List Int):Option ((Int × (List Int)) ⊕ ((List Int))) :=
 if decide (p1 < (a1.length:Int)) = true then
  (at? a1 p1).bind fun (x3:aH) =>
  if 0 <= x3.To ∧ x3.To.toNat < p2.length then
   (p2[x3.To.toNat]?).bind fun (x4:Int) =>
   if 0 <= p1 ∧ p1.toNat < a2.length then
    (a2[p1.toNat]?).bind fun (x5:Int) =>
    if 0 <= x3.To ∧ x3.To.toNat < p2.length then
     (p2[x3.To.toNat]?).bind fun (x6:Int) =>
     if 0 <= x3.From ∧ x3.From.toNat < (p2.set x3.To.toNat (IntKind.wrap .i64 (x4 + x5))).length then
      ((p2.set x3.To.toNat (IntKind.wrap .i64 (x4 + x5)))[x3.From.toNat]?).bind fun (x7:Int) =>
      if 0 <= p1 ∧ p1.toNat < a2.length then
       (a2[p1.toNat]?).bind fun (x8:Int) =>
       if 0 <= x3.From ∧ x3.From.toNat < (p2.set x3.To.toNat (IntKind.wrap .i64 (x4 + x5))).length then
        ((p2.set x3.To.toNat (IntKind.wrap .i64 (x4 + x5)))[x3.From.toNat]?).bind fun (x9:Int) =>
        some (.inl (IntKind.wrap .i64 (p1 + 1),(p2.set x3.To.toNat (IntKind.wrap .i64 (x4 + x5))).set x3.From.toNat (IntKind.wrap .i64 (x7 - x8))))
       else none
      else none
     else none
    else none
   else none
  else none
 else
  some (.inr (p2))
def kG (a0:Int) (a1:List aH) (a2:List Int) (p1:Int) (p2:List Int):Option ((List Int)) :=
 dK (fun (w:Int × (List Int))=>cN a0 a1 a2 w.1 w.2) (p1,p2)
def aX (a0:Int) (a1:List aH) (p12 p13:List Int) (r14:(List aC)) (r15:(List aD) × (List Int)) (p16 p17:Int):Option ((Int × Int) ⊕ (Int)) :=
 if decide (p17 < a0) = true then
  if 0 <= p17 ∧ p17.toNat < p12.length then
   (p12[p17.toNat]?).bind fun (x18:Int) =>
   if decide (x18 < 0) = true then
    if decide (p16 < 0) = true then
     if 0 <= p17 ∧ p17.toNat < r15.1.length then
      (r15.1[p17.toNat]?).bind fun (x19:aD) =>
      if x19.fine = true then
       some (.inl (p17,IntKind.wrap .i64 (p17 + 1)))
      else
       if decide (p16 ≥ 0) = true then
        if 0 <= p17 ∧ p17.toNat < r15.1.length then
         (r15.1[p17.toNat]?).bind fun (x20:aD) =>
         if 0 <= p16 ∧ p16.toNat < r15.1.length then
          (r15.1[p16.toNat]?).bind fun (x21:aD) =>
          (eZ x20 x21).bind fun (r22:Bool) =>
          if r22 = true then
           some (.inl (p17,IntKind.wrap .i64 (p17 + 1)))
          else
           some (.inl (p16,IntKind.wrap .i64 (p17 + 1)))
         else none
        else none
       else
        some (.inl (p16,IntKind.wrap .i64 (p17 + 1)))
     else none
    else
     if decide (p16 ≥ 0) = true then
      if 0 <= p17 ∧ p17.toNat < r15.1.length then
       (r15.1[p17.toNat]?).bind fun (x23:aD) =>
       if 0 <= p16 ∧ p16.toNat < r15.1.length then
        (r15.1[p16.toNat]?).bind fun (x24:aD) =>
        (eZ x23 x24).bind fun (r25:Bool) =>
        if r25 = true then
         some (.inl (p17,IntKind.wrap .i64 (p17 + 1)))
        else
         some (.inl (p16,IntKind.wrap .i64 (p17 + 1)))
       else none
      else none
     else
      some (.inl (p16,IntKind.wrap .i64 (p17 + 1)))
   else
    some (.inl (p16,IntKind.wrap .i64 (p17 + 1)))
  else none
 else
  some (.inr (p16))
def j9 (a0:Int) (a1:List aH) (p12 p13:List Int) (r14:(List aC)) (r15:(List aD) × (List Int)) (p16 p17:Int):Option (Int) :=
 dK (fun (w:Int × Int)=>aX a0 a1 p12 p13 r14 r15 w.1 w.2) (p16,p17)
def dR (a0:Int) (a1:List aH) (p12 p13:List Int) (r14:(List aC)) (r15:(List aD) × (List Int)) (r27 p29 p30:Int):Option ((Int × Int) ⊕ (Int × Int)) :=
 if 0 <= p30 ∧ p30.toNat < r15.2.length then
  (r15.2[p30.toNat]?).bind fun (x31:Int) =>
  if decide (x31 ≥ 0) = true then
   if 0 <= p30 ∧ p30.toNat < r15.2.length then
    (r15.2[p30.toNat]?).bind fun (x32:Int) =>
    if 0 <= x32 ∧ x32.toNat < r14.length then
     (r14[x32.toNat]?).bind fun (x33:aC) =>
     if 0 <= p30 ∧ p30.toNat < r15.2.length then
      (r15.2[p30.toNat]?).bind fun (x34:Int) =>
      if 0 <= x34 ∧ x34.toNat < r14.length then
       (r14[x34.toNat]?).bind fun (x35:aC) =>
       some (.inl ((if x33.most < p29 then x33.most else p29),x35.from_))
      else none
     else none
    else none
   else none
  else
   some (.inr ((p29,p30)))
 else none
def fZ (a0:Int) (a1:List aH) (p12 p13:List Int) (r14:(List aC)) (r15:(List aD) × (List Int)) (r27 p29 p30:Int):Option (Int × Int) :=
 dK (fun (w:Int × Int)=>dR a0 a1 p12 p13 r14 r15 r27 w.1 w.2) (p29,p30)
def dP (a0:Int) (a1:List aH) (p12:List Int) (r14:(List aC)) (r15:(List aD) × (List Int)) (r27:Int) (r38:Int × Int) (x39 p40:Int) (p41:List Int):Option ((Int × (List Int)) ⊕ ((List Int))) :=
 if 0 <= p40 ∧ p40.toNat < r15.2.length then
  (r15.2[p40.toNat]?).bind fun (x42:Int) =>
  if decide (x42 ≥ 0) = true then
   if 0 <= p40 ∧ p40.toNat < r15.2.length then
    (r15.2[p40.toNat]?).bind fun (x43:Int) =>
    if 0 <= x43 ∧ x43.toNat < r14.length then
     (r14[x43.toNat]?).bind fun (x44:aC) =>
     (eX x44 p41 (if x39 < r38.1 then x39 else r38.1)).bind fun (r45:(List Int)) =>
     if 0 <= p40 ∧ p40.toNat < r15.2.length then
      (r15.2[p40.toNat]?).bind fun (x46:Int) =>
      if 0 <= x46 ∧ x46.toNat < r14.length then
       (r14[x46.toNat]?).bind fun (x47:aC) =>
       some (.inl (x47.from_,r45))
      else none
     else none
    else none
   else none
  else
   some (.inr (p41))
 else none
def fY (a0:Int) (a1:List aH) (p12:List Int) (r14:(List aC)) (r15:(List aD) × (List Int)) (r27:Int) (r38:Int × Int) (x39 p40:Int) (p41:List Int):Option ((List Int)) :=
 dK (fun (w:Int × (List Int))=>dP a0 a1 p12 r14 r15 r27 r38 x39 w.1 w.2) (p40,p41)
def cZ (a0:Int) (a1:List aH) (p12 p13:List Int):Option (((List Int) × (List Int)) ⊕ ((List Int))) :=
 (gA a1 p13).bind fun (r14:(List aC)) =>
 (fX a0 r14 p12).bind fun (r15:(List aD) × (List Int)) =>
 (j9 a0 a1 p12 p13 r14 r15 (-1) 0).bind fun (r27:Int) =>
 if decide (r27 < 0) = true then
  some (.inr (p13))
 else
  if 0 <= r27 ∧ r27.toNat < p12.length then
   (p12[r27.toNat]?).bind fun (x28:Int) =>
   (fZ a0 a1 p12 p13 r14 r15 r27 (IntKind.wrap .i64 (0 - x28)) r27).bind fun (r38:Int × Int) =>
   if 0 <= r38.2 ∧ r38.2.toNat < p12.length then
    (p12[r38.2.toNat]?).bind fun (x39:Int) =>
    (fY a0 a1 p12 r14 r15 r27 r38 x39 r27 p13).bind fun (r49:(List Int)) =>
    if 0 <= r38.2 ∧ r38.2.toNat < p12.length then
     (p12[r38.2.toNat]?).bind fun (x50:Int) =>
     if 0 <= r38.2 ∧ r38.2.toNat < p12.length then
      (p12[r38.2.toNat]?).bind fun (x51:Int) =>
      if 0 <= r27 ∧ r27.toNat < (p12.set r38.2.toNat (IntKind.wrap .i64 (x50 - (if x39 < r38.1 then x39 else r38.1)))).length then
       ((p12.set r38.2.toNat (IntKind.wrap .i64 (x50 - (if x39 < r38.1 then x39 else r38.1))))[r27.toNat]?).bind fun (x52:Int) =>
       if 0 <= r27 ∧ r27.toNat < (p12.set r38.2.toNat (IntKind.wrap .i64 (x50 - (if x39 < r38.1 then x39 else r38.1)))).length then
        ((p12.set r38.2.toNat (IntKind.wrap .i64 (x50 - (if x39 < r38.1 then x39 else r38.1))))[r27.toNat]?).bind fun (x53:Int) =>
        some (.inl ((p12.set r38.2.toNat (IntKind.wrap .i64 (x50 - (if x39 < r38.1 then x39 else r38.1)))).set r27.toNat (IntKind.wrap .i64 (x52 + (if x39 < r38.1 then x39 else r38.1))),r49))
       else none
      else none
     else none
    else none
   else none
  else none
def nQ (a0:Int) (a1:List aH) (p12 p13:List Int):Option ((List Int)) :=
 dK (fun (w:(List Int) × (List Int))=>cZ a0 a1 w.1 w.2) (p12,p13)
def kP (a0:Int) (a1:List aH) (a2:List Int):Option ((List Int)) :=
 if 0 <= a0 ∧ a0 <= a0 ∧ 8 * a0 <= 281474976710656 ∧ a0 <= 9223372036854775807 then
  (kG a0 a1 a2 0 (List.replicate a0.toNat (0:Int))).bind fun (r11:(List Int)) =>
  (nQ a0 a1 r11 a2).bind fun (r55:(List Int)) =>
  some r55
 else none
def gI (a0:Int) (a1:aC):Option (Int) :=
 some (IntKind.wrap .i64 (a0 + a1.cost))
def oF (a0:Int):Option (Bool) :=
 some (a0 != a0)
def qX (a0 a1:Int):Option (Bool) :=
 (oF a0).bind fun (r1:Bool) =>
 if r1 = true then
  (oF a1).bind fun (r2:Bool) =>
  if (!(r2)) = true then
   some true
  else
   some (decide (a0 < a1))
 else
  some (decide (a0 < a1))
def cR (r1:(List aC)) (p6:Bool) (p7:Int) (p8 p9:List Int):Option ((Bool × Int × (List Int) × (List Int)) ⊕ (Bool × (List Int) × (List Int))) :=
 if decide (p7 < (r1.length:Int)) = true then
  if 0 <= p7 ∧ p7.toNat < r1.length then
   (r1[p7.toNat]?).bind fun (x10:aC) =>
   if 0 <= x10.from_ ∧ x10.from_.toNat < p8.length then
    (p8[x10.from_.toNat]?).bind fun (x11:Int) =>
    (gI x11 x10).bind fun (r12:Int) =>
    if 0 <= x10.to ∧ x10.to.toNat < p8.length then
     (p8[x10.to.toNat]?).bind fun (x13:Int) =>
     (qX r12 x13).bind fun (r14:Bool) =>
     if r14 = true then
      if 0 <= x10.to ∧ x10.to.toNat < p8.length then
       (p8[x10.to.toNat]?).bind fun (x15:Int) =>
       if 0 <= x10.to ∧ x10.to.toNat < p9.length then
        (p9[x10.to.toNat]?).bind fun (x16:Int) =>
        some (.inl (true,IntKind.wrap .i64 (p7 + 1),p8.set x10.to.toNat r12,p9.set x10.to.toNat p7))
       else none
      else none
     else
      some (.inl (p6,IntKind.wrap .i64 (p7 + 1),p8,p9))
    else none
   else none
  else none
 else
  some (.inr ((p6,p8,p9)))
def iK (r1:(List aC)) (p6:Bool) (p7:Int) (p8 p9:List Int):Option (Bool × (List Int) × (List Int)) :=
 dK (fun (w:Bool × Int × (List Int) × (List Int))=>cR r1 w.1 w.2.1 w.2.2.1 w.2.2.2) (p6,p7,p8,p9)
def e8 (r1:(List aC)) (p3:Bool) (p4 p5:List Int):Option ((Bool × (List Int) × (List Int)) ⊕ ((List Int) × (List Int))) :=
 if p3 = true then
  (iK r1 false 0 p4 p5).bind fun (r20:Bool × (List Int) × (List Int)) =>
  some (.inl (r20.1,r20.2.1,r20.2.2))
 else
  some (.inr ((p4,p5)))
def iN (r1:(List aC)) (p3:Bool) (p4 p5:List Int):Option ((List Int) × (List Int)) :=
 dK (fun (w:Bool × (List Int) × (List Int))=>e8 r1 w.1 w.2.1 w.2.2) (p3,p4,p5)
def eY (a0:Int) (a1:List aH) (a2:List Int):Option ((List Int)) :=
 if 0 <= a0 ∧ a0 <= a0 ∧ 8 * a0 <= 281474976710656 ∧ a0 <= 9223372036854775807 then
  (gA a1 a2).bind fun (r1:(List aC)) =>
  (gF [(-1)] ((List.replicate a0.toNat (0:Int)).length:Int)).bind fun (r2:(List Int)) =>
  (iN r1 true (List.replicate a0.toNat (0:Int)) r2).bind fun (r23:(List Int) × (List Int)) =>
  some r23.1
 else none
def c7 (a0:Int) (a1:List aH) (a3:List Int) (a4:Int) (p5:List Int) (r8:(List aC)) (p9:Int) (p10:List aC):Option ((Int × (List aC)) ⊕ ((List aC))) :=
 if decide (p9 < (r8.length:Int)) = true then
  if 0 <= p9 ∧ p9.toNat < r8.length then
   (r8[p9.toNat]?).bind fun (x11:aC) =>
   if decide (x11.due > a4) = true then
    (at? a3 x11.to).bind fun (x12:Int) =>
    (at? a3 x11.from_).bind fun (x13:Int) =>
    if (x12 == (IntKind.wrap .i64 (x13 + x11.cost))) = true then
     if (p10.length + 1) * 48 <= 140737488355328 then
      some (.inl (IntKind.wrap .i64 (p9 + 1),p10 ++ [x11]))
     else none
    else
     some (.inl (IntKind.wrap .i64 (p9 + 1),p10))
   else
    some (.inl (IntKind.wrap .i64 (p9 + 1),p10))
  else none
 else
  some (.inr (p10))
def mK (a0:Int) (a1:List aH) (a3:List Int) (a4:Int) (p5:List Int) (r8:(List aC)) (p9:Int) (p10:List aC):Option ((List aC)) :=
 dK (fun (w:Int × (List aC))=>c7 a0 a1 a3 a4 p5 r8 w.1 w.2) (p9,p10)
def c9 (a0:Int) (a1:List aH) (a3:List Int) (a4:Int) (p5:List Int) (r15:(List aC)) (x16:aH) (p18:Int) (p19:List aC):Option ((Int × (List aC)) ⊕ ((List aC))) :=
 if decide (p18 < (r15.length:Int)) = true then
  if 0 <= p18 ∧ p18.toNat < p19.length then
   (p19[p18.toNat]?).bind fun (x20:aC) =>
   some (.inl (IntKind.wrap .i64 (p18 + 1),p19.set p18.toNat (aC.mk x20.due x20.from_ x20.to 0 x20.most x20.back)))
  else none
 else
  some (.inr (p19))
def lZ (a0:Int) (a1:List aH) (a3:List Int) (a4:Int) (p5:List Int) (r15:(List aC)) (x16:aH) (p18:Int) (p19:List aC):Option ((List aC)) :=
 dK (fun (w:Int × (List aC))=>c9 a0 a1 a3 a4 p5 r15 x16 w.1 w.2) (p18,p19)
def eW (a0:Int) (a1:List aH) (a3:List Int) (a4:Int) (p5:List Int) (r22:(List aC)) (r23:(List aD) × (List Int)) (p29 p30:Int):Option ((Int × Int) ⊕ (Int)) :=
 if 0 <= p30 ∧ p30.toNat < r23.2.length then
  (r23.2[p30.toNat]?).bind fun (x31:Int) =>
  if decide (x31 ≥ 0) = true then
   if 0 <= p30 ∧ p30.toNat < r23.2.length then
    (r23.2[p30.toNat]?).bind fun (x32:Int) =>
    if 0 <= x32 ∧ x32.toNat < r22.length then
     (r22[x32.toNat]?).bind fun (x33:aC) =>
     if 0 <= p30 ∧ p30.toNat < r23.2.length then
      (r23.2[p30.toNat]?).bind fun (x34:Int) =>
      if 0 <= x34 ∧ x34.toNat < r22.length then
       (r22[x34.toNat]?).bind fun (x35:aC) =>
       some (.inl ((if x33.most < p29 then x33.most else p29),x35.from_))
      else none
     else none
    else none
   else none
  else
   some (.inr (p29))
 else none
def iF (a0:Int) (a1:List aH) (a3:List Int) (a4:Int) (p5:List Int) (r22:(List aC)) (r23:(List aD) × (List Int)) (p29 p30:Int):Option (Int) :=
 dK (fun (w:Int × Int)=>eW a0 a1 a3 a4 p5 r22 r23 w.1 w.2) (p29,p30)
def e7 (a0:Int) (a1:List aH) (a3:List Int) (a4:Int) (r22:(List aC)) (r23:(List aD) × (List Int)) (r37 p39:Int) (p40:List Int):Option ((Int × (List Int)) ⊕ ((List Int))) :=
 if 0 <= p39 ∧ p39.toNat < r23.2.length then
  (r23.2[p39.toNat]?).bind fun (x41:Int) =>
  if decide (x41 ≥ 0) = true then
   if 0 <= p39 ∧ p39.toNat < r23.2.length then
    (r23.2[p39.toNat]?).bind fun (x42:Int) =>
    if 0 <= x42 ∧ x42.toNat < r22.length then
     (r22[x42.toNat]?).bind fun (x43:aC) =>
     (eX x43 p40 r37).bind fun (r44:(List Int)) =>
     if 0 <= p39 ∧ p39.toNat < r23.2.length then
      (r23.2[p39.toNat]?).bind fun (x45:Int) =>
      if 0 <= x45 ∧ x45.toNat < r22.length then
       (r22[x45.toNat]?).bind fun (x46:aC) =>
       some (.inl (x46.from_,r44))
      else none
     else none
    else none
   else none
  else
   some (.inr (p40))
 else none
def iH (a0:Int) (a1:List aH) (a3:List Int) (a4:Int) (r22:(List aC)) (r23:(List aD) × (List Int)) (r37 p39:Int) (p40:List Int):Option ((List Int)) :=
 dK (fun (w:Int × (List Int))=>e7 a0 a1 a3 a4 r22 r23 r37 w.1 w.2) (p39,p40)
def cP (a0:Int) (a1:List aH) (a3:List Int) (a4:Int) (p5:List Int):Option (((List Int)) ⊕ (((List Int)) ⊕ ((List Int)))) :=
 if 0 <= a4 ∧ a4.toNat < p5.length then
  (p5[a4.toNat]?).bind fun (x6:Int) =>
  (at? a1 a4).bind fun (x7:aH) =>
  if decide (x6 < x7.Sum) = true then
   (gA a1 p5).bind fun (r8:(List aC)) =>
   (mK a0 a1 a3 a4 p5 r8 0 []).bind fun (r15:(List aC)) =>
   if 0 <= a0 ∧ a0 <= a0 ∧ 8 * a0 <= 281474976710656 ∧ a0 <= 9223372036854775807 then
    (at? a1 a4).bind fun (x16:aH) =>
    if 0 <= x16.To ∧ x16.To.toNat < (List.replicate a0.toNat (0:Int)).length then
     ((List.replicate a0.toNat (0:Int))[x16.To.toNat]?).bind fun (x17:Int) =>
     (lZ a0 a1 a3 a4 p5 r15 x16 0 r15).bind fun (r22:(List aC)) =>
     (fX a0 r22 ((List.replicate a0.toNat (0:Int)).set x16.To.toNat 1)).bind fun (r23:(List aD) × (List Int)) =>
     (at? a1 a4).bind fun (x24:aH) =>
     if 0 <= x24.From ∧ x24.From.toNat < r23.1.length then
      (r23.1[x24.From.toNat]?).bind fun (x25:aD) =>
      if (!(x25.fine)) = true then
       some (.inr (.inr (p5)))
      else
       (at? a1 a4).bind fun (x26:aH) =>
       if 0 <= a4 ∧ a4.toNat < p5.length then
        (p5[a4.toNat]?).bind fun (x27:Int) =>
        (at? a1 a4).bind fun (x28:aH) =>
        (iF a0 a1 a3 a4 p5 r22 r23 (IntKind.wrap .i64 (x26.Sum - x27)) x28.From).bind fun (r37:Int) =>
        (at? a1 a4).bind fun (x38:aH) =>
        (iH a0 a1 a3 a4 r22 r23 r37 x38.From p5).bind fun (r48:(List Int)) =>
        if 0 <= a4 ∧ a4.toNat < r48.length then
         (r48[a4.toNat]?).bind fun (x49:Int) =>
         if 0 <= a4 ∧ a4.toNat < r48.length then
          (r48[a4.toNat]?).bind fun (x50:Int) =>
          some (.inl (r48.set a4.toNat (IntKind.wrap .i64 (x49 + r37))))
         else none
        else none
       else none
     else none
    else none
   else none
  else
   some (.inr (.inl p5))
 else none
def pS (a0:Int) (a1:List aH) (a3:List Int) (a4:Int) (p5:List Int):Option (((List Int)) ⊕ ((List Int))) :=
 dK (fun (w:(List Int))=>cP a0 a1 a3 a4 w) p5
def m8 (a0:Int) (a1:List aH) (a2 a3:List Int) (a4:Int):Option ((List Int)) :=
 (at? a1 a4).bind fun (x1:aH) =>
 (at? a3 x1.To).bind fun (x2:Int) =>
 (at? a1 a4).bind fun (x3:aH) =>
 (at? a3 x3.From).bind fun (x4:Int) =>
 if (x2 != (IntKind.wrap .i64 (x4 - 1))) = true then
  some a2
 else
  (pS a0 a1 a3 a4 a2).bind fun (r53:((List Int)) ⊕ ((List Int)))=>Sum.elim (fun z54 =>
  some z54) (fun z55 =>
  some z55) r53
def dF (a0:Int) (a1:List aH) (p2:Int) (p3:List Int):Option ((Int × (List Int)) ⊕ ((List Int))) :=
 if decide (p2 < (a1.length:Int)) = true then
  (at? a1 p2).bind fun (x4:aH) =>
  if 0 <= p2 ∧ p2.toNat < p3.length then
   (p3[p2.toNat]?).bind fun (x5:Int) =>
   some (.inl (IntKind.wrap .i64 (p2 + 1),p3.set p2.toNat x4.Sum))
  else none
 else
  some (.inr (p3))
def mC (a0:Int) (a1:List aH) (p2:Int) (p3:List Int):Option ((List Int)) :=
 dK (fun (w:Int × (List Int))=>dF a0 a1 w.1 w.2) (p2,p3)
def dQ (a0:Int) (a1:List aH) (r9:(List Int)) (p10:Int) (p11:List Int):Option ((Int × (List Int)) ⊕ ((List Int))) :=
 if decide (p10 < (a1.length:Int)) = true then
  (m8 a0 a1 p11 r9 p10).bind fun (r12:(List Int)) =>
  some (.inl (IntKind.wrap .i64 (p10 + 1),r12))
 else
  some (.inr (p11))
def mD (a0:Int) (a1:List aH) (r9:(List Int)) (p10:Int) (p11:List Int):Option ((List Int)) :=
 dK (fun (w:Int × (List Int))=>dQ a0 a1 r9 w.1 w.2) (p10,p11)
def kV (a0:Int) (a1:List aH):Option ((List Int) × (List Int) × Int) :=
 (jF a0 a1).bind fun (r1:Bool) =>
 if (!(r1)) = true then
  some ([],[],1)
 else
  if 0 <= (a1.length:Int) ∧ (a1.length:Int) <= (a1.length:Int) ∧ 8 * (a1.length:Int) <= 281474976710656 ∧ (a1.length:Int) <= 9223372036854775807 then
   (mC a0 a1 0 (List.replicate ((a1.length:Int).toNat) (0:Int))).bind fun (r7:(List Int)) =>
   (kP a0 a1 r7).bind fun (r8:(List Int)) =>
   (eY a0 a1 r8).bind fun (r9:(List Int)) =>
   (mD a0 a1 r9 0 r8).bind fun (r14:(List Int)) =>
   (eY a0 a1 r14).bind fun (r15:(List Int)) =>
   some (r14,r15,0)
  else none
def eU (a0:Int) (a1:List aE) (a2:List Int) (p1:Int) (p2:List aH) (p3:List Int):Option ((Int × (List aH) × (List Int)) ⊕ ((List aH) × (List Int))) :=
 if decide (p1 < (a1.length:Int)) = true then
  (at? a1 p1).bind fun (x4:aE) =>
  (qM x4 a2).bind fun (r5:Bool) =>
  if r5 = true then
   (vO x4).bind fun (r6:aH) =>
   if (p2.length + 1) * 24 <= 140737488355328 then
    if (p3.length + 1) * 8 <= 140737488355328 then
     some (.inl (IntKind.wrap .i64 (p1 + 1),p2 ++ [r6],p3 ++ [p1]))
    else none
   else none
  else
   some (.inl (IntKind.wrap .i64 (p1 + 1),p2,p3))
 else
  some (.inr ((p2,p3)))
def qV (a0:Int) (a1:List aE) (a2:List Int) (p1:Int) (p2:List aH) (p3:List Int):Option ((List aH) × (List Int)) :=
 dK (fun (w:Int × (List aH) × (List Int))=>eU a0 a1 a2 w.1 w.2.1 w.2.2) (p1,p2,p3)
def fM (r10:(List Int) × (List Int) × Int) (r9:(List aH) × (List Int)) (p11:Int) (p12:List Int):Option ((Int × (List Int)) ⊕ ((List Int))) :=
 if decide (p11 < (r10.1.length:Int)) = true then
  (at? r10.1 p11).bind fun (x13:Int) =>
  if 0 <= p11 ∧ p11.toNat < r9.2.length then
   (r9.2[p11.toNat]?).bind fun (x14:Int) =>
   if 0 <= x14 ∧ x14.toNat < p12.length then
    (p12[x14.toNat]?).bind fun (x15:Int) =>
    some (.inl (IntKind.wrap .i64 (p11 + 1),p12.set x14.toNat x13))
   else none
  else none
 else
  some (.inr (p12))
def qS (r10:(List Int) × (List Int) × Int) (r9:(List aH) × (List Int)) (p11:Int) (p12:List Int):Option ((List Int)) :=
 dK (fun (w:Int × (List Int))=>fM r10 r9 w.1 w.2) (p11,p12)
def j0 (a0:Int) (a1:List aE) (a2:List Int):Option ((List Int) × (List Int)) :=
 (qV a0 a1 a2 0 [] []).bind fun (r9:(List aH) × (List Int)) =>
 (kV a0 r9.1).bind fun (r10:(List Int) × (List Int) × Int) =>
 if 0 <= (a1.length:Int) ∧ (a1.length:Int) <= (a1.length:Int) ∧ 8 * (a1.length:Int) <= 281474976710656 ∧ (a1.length:Int) <= 9223372036854775807 then
  (qS r10 r9 0 (List.replicate ((a1.length:Int).toNat) (0:Int))).bind fun (r17:(List Int)) =>
  some (r17,r10.2.1)
 else none
def cQ (a0:Int) (a1:List aE) (a2:List Int):Option ((List Int) × (List Int) × Int) :=
 (j6 a0 a1).bind fun (r1:Int) =>
 if (r1 != 0) = true then
  some ([],[],1)
 else
  (nU a2).bind fun (r2:Bool) =>
  if (!(r2)) = true then
   some ([],[],1)
  else
   (j0 a0 a1 a2).bind fun (r3:(List Int) × (List Int)) =>
   some (r3.1,r3.2,0)
def eJ (a0:List aE) (p1:Int) (x3:aE) (p4:Int) (p5:List Int):Option ((Int × (List Int)) ⊕ ((List Int))) :=
 if decide (p4 < (x3.Rights.length:Int)) = true then
  (at? x3.Rights p4).bind fun (x6:aJ) =>
  if (p5.length + 1) * 8 <= 140737488355328 then
   some (.inl (IntKind.wrap .i64 (p4 + 1),p5 ++ [x6.Owner]))
  else none
 else
  some (.inr (p5))
def m9 (a0:List aE) (p1:Int) (x3:aE) (p4:Int) (p5:List Int):Option ((List Int)) :=
 dK (fun (w:Int × (List Int))=>eJ a0 p1 x3 w.1 w.2) (p4,p5)
def eH (a0:List aE) (p1:Int) (p2:List Int):Option ((Int × (List Int)) ⊕ ((List Int))) :=
 if decide (p1 < (a0.length:Int)) = true then
  (at? a0 p1).bind fun (x3:aE) =>
  (m9 a0 p1 x3 0 p2).bind fun (r8:(List Int)) =>
  some (.inl (IntKind.wrap .i64 (p1 + 1),r8))
 else
  some (.inr (p2))
def nN (a0:List aE) (p1:Int) (p2:List Int):Option ((List Int)) :=
 dK (fun (w:Int × (List Int))=>eH a0 w.1 w.2) (p1,p2)
def gZ (a0:List aE):Option ((List Int)) :=
 (nN a0 0 []).bind fun (r10:(List Int)) =>
 if r10.length < 4611686018427387904 then
  some (A5 (zO r10))
 else none
def iB (a0:Int) (a1:List Int):Option (Bool) :=
 (c8 a1 a0).bind fun (r1:Bool) =>
 some r1
def a8 (a0 a1:List Int) (p1:Int):Option ((Int) ⊕ (Unit ⊕ Int)) :=
 if decide (p1 < (a0.length:Int)) = true then
  (at? a0 p1).bind fun (x2:Int) =>
  (iB x2 a1).bind fun (r3:Bool) =>
  if r3 = true then
   some (.inr (.inr (p1)))
  else
   some (.inl (IntKind.wrap .i64 (p1 + 1)))
 else
  some (.inr (.inl ()))
def e9 (a0 a1:List Int) (p1:Int):Option (Unit ⊕ Int) :=
 dK (fun (w:Int)=>a8 a0 a1 w) p1
def b8 (a0 a1:List Int):Option (Int) :=
 (e9 a0 a1 0).bind fun (r5:Unit ⊕ Int)=>Sum.elim (fun z6 =>
 some (-1)) (fun z7 =>
 some z7) r5
def cO (a0:List Int) (p1 p2:Int):Option ((Int × Int) ⊕ (Int ⊕ Unit)) :=
 if decide (p2 < (a0.length:Int)) = true then
  (at? a0 p2).bind fun (x3:Int) =>
  if decide (x3 < 0) = true then
   some (.inr (.inr (())))
  else
   if decide (x3 > 1099511627776) = true then
    some (.inr (.inr (())))
   else
    some (.inl (IntKind.wrap .i64 (p1 + x3),IntKind.wrap .i64 (p2 + 1)))
 else
  some (.inr (.inl p1))
def pT (a0:List Int) (p1 p2:Int):Option (Int ⊕ Unit) :=
 dK (fun (w:Int × Int)=>cO a0 w.1 w.2) (p1,p2)
def dN (a0:List Int):Option (Int) :=
 if decide ((a0.length:Int) > 100) = true then
  some 0
 else
  (pT a0 0 0).bind fun (r5:Int ⊕ Unit)=>Sum.elim (fun z6 =>
  some z6) (fun z7 =>
  some 0) r5
def eG (a0:List Int):Option ((List Int)):=if a0.length * 8 <= 140737488355328 then some a0 else none
def k9 (a0:Int) (a1:List Int):Option (Bool) :=
 (c8 a1 a0).bind fun (r1:Bool) =>
 some (!(r1))
def bA (a0 a1:List Int) (p1:Int):Option ((Int) ⊕ (Unit ⊕ Int)) :=
 if decide (p1 < (a0.length:Int)) = true then
  (at? a0 p1).bind fun (x2:Int) =>
  (k9 x2 a1).bind fun (r3:Bool) =>
  if r3 = true then
   some (.inr (.inr (p1)))
  else
   some (.inl (IntKind.wrap .i64 (p1 + 1)))
 else
  some (.inr (.inl ()))
def fF (a0 a1:List Int) (p1:Int):Option (Unit ⊕ Int) :=
 dK (fun (w:Int)=>bA a0 a1 w) p1
def d9 (a0 a1:List Int):Option (Int) :=
 (fF a0 a1 0).bind fun (r5:Unit ⊕ Int)=>Sum.elim (fun z6 =>
 some (-1)) (fun z7 =>
 some z7) r5
def dH (a0 a1:List Int):Option (Bool) :=
 (d9 a0 a1).bind fun (r1:Int) =>
 some (decide (r1 ≥ 0))
def pF (a0 a1:List Int):Option (Bool) :=
 (dH a0 a1).bind fun (r1:Bool) =>
 some (!(r1))
def mA (a0 a1:List Int):Option (Bool) :=
 (pF a0 a1).bind fun (r1:Bool) =>
 some r1
def bB (a0:List (List Int)) (a1:List Int) (p1:Int):Option ((Int) ⊕ (Unit ⊕ Int)) :=
 if decide (p1 < (a0.length:Int)) = true then
  (at? a0 p1).bind fun (x2:List Int) =>
  (mA x2 a1).bind fun (r3:Bool) =>
  if r3 = true then
   some (.inr (.inr (p1)))
  else
   some (.inl (IntKind.wrap .i64 (p1 + 1)))
 else
  some (.inr (.inl ()))
def fB (a0:List (List Int)) (a1:List Int) (p1:Int):Option (Unit ⊕ Int) :=
 dK (fun (w:Int)=>bB a0 a1 w) p1
def d8 (a0:List (List Int)) (a1:List Int):Option (Int) :=
 (fB a0 a1 0).bind fun (r5:Unit ⊕ Int)=>Sum.elim (fun z6 =>
 some (-1)) (fun z7 =>
 some z7) r5
def cG (a0:List (List Int)) (a1:List Int):Option (Bool) :=
 (d8 a0 a1).bind fun (r1:Int) =>
 some (decide (r1 ≥ 0))
def dG (a0:Int) (a1:List aE) (a2:List Int) (p5 p6:Int) (p7:List Int):Option ((Int × Int × (List Int)) ⊕ (Int × (List Int))) :=
 if decide (p6 < (p7.length:Int)) = true then
  if 0 <= p6 ∧ p6.toNat < p7.length then
   (p7[p6.toNat]?).bind fun (x8:Int) =>
   (iB x8 a2).bind fun (r9:Bool) =>
   if (!(r9)) = true then
    if 0 <= p5 ∧ p5.toNat < p7.length then
     (p7[p5.toNat]?).bind fun (x10:Int) =>
     some (.inl (IntKind.wrap .i64 (p5 + 1),IntKind.wrap .i64 (p6 + 1),p7.set p5.toNat x8))
    else none
   else
    some (.inl (p5,IntKind.wrap .i64 (p6 + 1),p7))
  else none
 else
  some (.inr ((p5,p7)))
def lS (a0:Int) (a1:List aE) (a2:List Int) (p5 p6:Int) (p7:List Int):Option (Int × (List Int)) :=
 dK (fun (w:Int × Int × (List Int))=>dG a0 a1 a2 w.1 w.2.1 w.2.2) (p5,p6,p7)
def dV (a0:Int) (a1:List aE) (a2 p14:List Int) (p17:List (List Int)) (p18:Int) (p19:List (List Int)) (p20 r16:Int) (x22:List Int) (p25:Int) (p26:List (List Int)):Option ((Int × (List (List Int))) ⊕ ((List (List Int)))) :=
 if decide (p25 < (p14.length:Int)) = true then
  (eG x22).bind fun (r27:(List Int)) =>
  if (r27.length + 1) * 8 <= 140737488355328 then
   if (p26.length + 1) * 24 <= 140737488355328 then
    some (.inl (IntKind.wrap .i64 (p25 + 1),p26 ++ [r27 ++ [p25]]))
   else none
  else none
 else
  some (.inr (p26))
def oV (a0:Int) (a1:List aE) (a2 p14:List Int) (p17:List (List Int)) (p18:Int) (p19:List (List Int)) (p20 r16:Int) (x22:List Int) (p25:Int) (p26:List (List Int)):Option ((List (List Int))) :=
 dK (fun (w:Int × (List (List Int)))=>dV a0 a1 a2 p14 p17 p18 p19 p20 r16 x22 w.1 w.2) (p25,p26)
def lQ (a0:Int) (a1:List aE) (a2 p14:List Int) (p17:List (List Int)) (p18:Int) (p19:List (List Int)) (p20:Int) (p21:List (List Int)) (r16:Int) (x22:List Int) (p24:Int):Option ((List (List Int))) :=
 (oV a0 a1 a2 p14 p17 p18 p19 p20 r16 x22 p24 p21).bind fun (r29:(List (List Int))) =>
 some (r29)
def dZ (a0:Int) (a1:List aE) (a2 p14:List Int) (p17:List (List Int)) (p18:Int) (p19:List (List Int)) (r16 p20:Int) (p21:List (List Int)):Option ((Int × (List (List Int))) ⊕ ((List (List Int)))) :=
 if decide (p20 < (p17.length:Int)) = true then
  (at? p17 p20).bind fun (x22:List Int) =>
  if decide ((x22.length:Int) > 0) = true then
   (at? x22 (IntKind.wrap .i64 ((x22.length:Int) - 1))).bind fun (x23:Int) =>
   (lQ a0 a1 a2 p14 p17 p18 p19 p20 p21 r16 x22 (IntKind.wrap .i64 (x23 + 1))).bind fun (r31:(List (List Int))) =>
   some (.inl (IntKind.wrap .i64 (p20 + 1),r31))
  else
   (lQ a0 a1 a2 p14 p17 p18 p19 p20 p21 r16 x22 0).bind fun (r32:(List (List Int))) =>
   some (.inl (IntKind.wrap .i64 (p20 + 1),r32))
 else
  some (.inr (p21))
def oP (a0:Int) (a1:List aE) (a2 p14:List Int) (p17:List (List Int)) (p18:Int) (p19:List (List Int)) (r16 p20:Int) (p21:List (List Int)):Option ((List (List Int))) :=
 dK (fun (w:Int × (List (List Int)))=>dZ a0 a1 a2 p14 p17 p18 p19 r16 w.1 w.2) (p20,p21)
def dY (a0:Int) (a1:List aE) (a2 p14:List Int) (p18 p35:Int) (p36:List (List Int)) (r16:Int) (r34:(List (List Int))) (x37:List Int) (p38:Int) (p39:List Int):Option ((Int × (List Int)) ⊕ ((List Int))) :=
 if decide (p38 < (x37.length:Int)) = true then
  (at? x37 p38).bind fun (x40:Int) =>
  if 0 <= x40 ∧ x40.toNat < p14.length then
   (p14[x40.toNat]?).bind fun (x41:Int) =>
   if (p39.length + 1) * 8 <= 140737488355328 then
    some (.inl (IntKind.wrap .i64 (p38 + 1),p39 ++ [x41]))
   else none
  else none
 else
  some (.inr (p39))
def oS (a0:Int) (a1:List aE) (a2 p14:List Int) (p18 p35:Int) (p36:List (List Int)) (r16:Int) (r34:(List (List Int))) (x37:List Int) (p38:Int) (p39:List Int):Option ((List Int)) :=
 dK (fun (w:Int × (List Int))=>dY a0 a1 a2 p14 p18 p35 p36 r16 r34 x37 w.1 w.2) (p38,p39)
def dX (a0:Int) (a1:List aE) (a2 p14:List Int) (p18 r16:Int) (r34:(List (List Int))) (p35:Int) (p36:List (List Int)):Option ((Int × (List (List Int))) ⊕ ((List (List Int)))) :=
 if decide (p35 < (r34.length:Int)) = true then
  if 0 <= p35 ∧ p35.toNat < r34.length then
   (r34[p35.toNat]?).bind fun (x37:List Int) =>
   (oS a0 a1 a2 p14 p18 p35 p36 r16 r34 x37 0 []).bind fun (r43:(List Int)) =>
   (cG p36 r43).bind fun (r44:Bool) =>
   if r44 = true then
    some (.inl (IntKind.wrap .i64 (p35 + 1),p36))
   else
    (eG a2).bind fun (r45:(List Int)) =>
    if (r45.length + r43.length) * 8 <= 140737488355328 then
     (j0 a0 a1 (r45 ++ r43)).bind fun (r46:(List Int) × (List Int)) =>
     (dN r46.1).bind fun (r47:Int) =>
     if decide (r47 > r16) = true then
      if (p36.length + 1) * 24 <= 140737488355328 then
       some (.inl (IntKind.wrap .i64 (p35 + 1),p36 ++ [r43]))
      else none
     else
      some (.inl (IntKind.wrap .i64 (p35 + 1),p36))
    else none
  else none
 else
  some (.inr (p36))
def pD (a0:Int) (a1:List aE) (a2 p14:List Int) (p18 r16:Int) (r34:(List (List Int))) (p35:Int) (p36:List (List Int)):Option ((List (List Int))) :=
 dK (fun (w:Int × (List (List Int)))=>dX a0 a1 a2 p14 p18 r16 r34 w.1 w.2) (p35,p36)
def dU (a0:Int) (a1:List aE) (a2 p14:List Int) (r16:Int) (p17:List (List Int)) (p18:Int) (p19:List (List Int)):Option (((List (List Int)) × Int × (List (List Int))) ⊕ ((List (List Int)))) :=
 if decide (p18 < (p14.length:Int)) = true then
  (oP a0 a1 a2 p14 p17 p18 p19 r16 0 []).bind fun (r34:(List (List Int))) =>
  (pD a0 a1 a2 p14 p18 r16 r34 0 p19).bind fun (r49:(List (List Int))) =>
  some (.inl (r34,IntKind.wrap .i64 (p18 + 1),r49))
 else
  some (.inr (p19))
def pG (a0:Int) (a1:List aE) (a2 p14:List Int) (r16:Int) (p17:List (List Int)) (p18:Int) (p19:List (List Int)):Option ((List (List Int))) :=
 dK (fun (w:(List (List Int)) × Int × (List (List Int)))=>dU a0 a1 a2 p14 r16 w.1 w.2.1 w.2.2) (p17,p18,p19)
def lP (a0:Int) (a1:List aE) (a2 p14:List Int):Option (Int × (List (List Int))) :=
 if decide ((p14.length:Int) > 8) = true then
  some ((6,[]))
 else
  (j0 a0 a1 a2).bind fun (r15:(List Int) × (List Int)) =>
  (dN r15.1).bind fun (r16:Int) =>
  (pG a0 a1 a2 p14 r16 [[]] 0 []).bind fun (r51:(List (List Int))) =>
  some ((0,r51))
def gB (a0:Int) (a1:List aE) (a2:List Int):Option ((List (List Int)) × Int) :=
 (j6 a0 a1).bind fun (r1:Int) =>
 if (r1 != 0) = true then
  some ([],1)
 else
  (nU a2).bind fun (r2:Bool) =>
  if (!(r2)) = true then
   some ([],1)
  else
   (gZ a1).bind fun (r3:(List Int)) =>
   (b8 r3 a2).bind fun (r4:Int) =>
   if (r4 == (-1)) = true then
    (lP a0 a1 a2 r3).bind fun (r54:Int × (List (List Int))) =>
    some (r54.2,r54.1)
   else
    (lS a0 a1 a2 r4 (IntKind.wrap .i64 (r4 + 1)) r3).bind fun (r13:Int × (List Int)) =>
    if 0 <= r13.1 ∧ r13.1.toNat <= r13.2.length then
     if 0 <= r13.1 ∧ r13.1.toNat <= (uC r13.1.toNat r13.2).length then
      (lP a0 a1 a2 ((uC r13.1.toNat r13.2).take r13.1.toNat)).bind fun (r55:Int × (List (List Int))) =>
      some (r55.2,r55.1)
     else none
    else none
def mM (a0:List aE) (a1:List Int) (a2 a3 p1:Int) (p2:List Int) (p3:List bH):Option ((Int × (List Int) × (List bH)) ⊕ ((List Int) × (List bH))) :=
 if decide (p1 < (a0.length:Int)) = true then
  (at? a0 p1).bind fun (x4:aE) =>
  (at? a1 p1).bind fun (x5:Int) =>
  if decide (x5 > 0) = true then
   if (p2.length + 1) * 8 <= 140737488355328 then
    (at? a1 p1).bind fun (x6:Int) =>
    if (p3.length + 1) * 72 <= 140737488355328 then
     some (.inl (IntKind.wrap .i64 (p1 + 1),p2 ++ [x4.File],p3 ++ [(bH.mk 6 x4.From x4.To x4.Part x4.Sign x6 a2 a3 0)]))
    else none
   else none
  else
   some (.inl (IntKind.wrap .i64 (p1 + 1),p2,p3))
 else
  some (.inr ((p2,p3)))
def tY (a0:List aE) (a1:List Int) (a2 a3 p1:Int) (p2:List Int) (p3:List bH):Option ((List Int) × (List bH)) :=
 dK (fun (w:Int × (List Int) × (List bH))=>mM a0 a1 a2 a3 w.1 w.2.1 w.2.2) (p1,p2,p3)
def sM (a0:List aE) (a1:List Int) (a2 a3:Int):Option ((List Int) × (List bH)) :=
 if ((a1.length:Int) != (a0.length:Int)) = true then
  some ([],[])
 else
  (tY a0 a1 a2 a3 0 [] []).bind fun (r9:(List Int) × (List bH)) =>
  some (r9.1,r9.2)
def kT (a0 a1:List Int) (p1:Int):Option ((Int) ⊕ (Unit ⊕ Unit)) :=
 if decide (p1 < (a0.length:Int)) = true then
  (at? a0 p1).bind fun (x2:Int) =>
  (at? a1 p1).bind fun (x3:Int) =>
  if (x2 != x3) = true then
   some (.inr (.inr (())))
  else
   some (.inl (IntKind.wrap .i64 (p1 + 1)))
 else
  some (.inr (.inl ()))
def qZ (a0 a1:List Int) (p1:Int):Option (Unit ⊕ Unit) :=
 dK (fun (w:Int)=>kT a0 a1 w) p1
def iG (a0 a1:List Int):Option (Bool) :=
 if ((a0.length:Int) != (a1.length:Int)) = true then
  some false
 else
  (qZ a0 a1 0).bind fun (r4:Unit ⊕ Unit)=>Sum.elim (fun z5 =>
  some true) (fun z6 =>
  some false) r4
def jN (a0 a1:List Int) (p1:Int):Option ((Int) ⊕ (Unit ⊕ Bool)) :=
 if decide (p1 < (a0.length:Int)) = true then
  (at? a0 p1).bind fun (x2:Int) =>
  (at? a1 p1).bind fun (x3:Int) =>
  if (x2 != x3) = true then
   (at? a0 p1).bind fun (x4:Int) =>
   (at? a1 p1).bind fun (x5:Int) =>
   some (.inr (.inr (decide (x4 < x5))))
  else
   some (.inl (IntKind.wrap .i64 (p1 + 1)))
 else
  some (.inr (.inl ()))
def pC (a0 a1:List Int) (p1:Int):Option (Unit ⊕ Bool) :=
 dK (fun (w:Int)=>jN a0 a1 w) p1
def j7 (a0 a1:List Int):Option (Bool) :=
 if ((a0.length:Int) != (a1.length:Int)) = true then
  some (decide ((a0.length:Int) < (a1.length:Int)))
 else
  (pC a0 a1 0).bind fun (r7:Unit ⊕ Bool)=>Sum.elim (fun z8 =>
  some false) (fun z9 =>
  some z9) r7
def hY (a0 a1:List (List Int)) (p1:Int):Option ((Int) ⊕ (Unit ⊕ Unit)) :=
 if decide (p1 < (a0.length:Int)) = true then
  (at? a0 p1).bind fun (x2:List Int) =>
  (at? a1 p1).bind fun (x3:List Int) =>
  (j7 x2 x3).bind fun (r4:Bool) =>
  if r4 = true then
   some (.inr (.inr (())))
  else
   (at? a1 p1).bind fun (x5:List Int) =>
   (at? a0 p1).bind fun (x6:List Int) =>
   (j7 x5 x6).bind fun (r7:Bool) =>
   if r7 = true then
    some (.inr (.inr (())))
   else
    some (.inl (IntKind.wrap .i64 (p1 + 1)))
 else
  some (.inr (.inl ()))
def mG (a0 a1:List (List Int)) (p1:Int):Option (Unit ⊕ Unit) :=
 dK (fun (w:Int)=>hY a0 a1 w) p1
def iL (a0 a1:List (List Int)):Option (Bool) :=
 if ((a0.length:Int) != (a1.length:Int)) = true then
  some false
 else
  (mG a0 a1 0).bind fun (r8:Unit ⊕ Unit)=>Sum.elim (fun z9 =>
  some true) (fun z10 =>
  some false) r8
def qL (a0:List aE) (a1 a2:List Int) (p1:Int):Option ((Int) ⊕ (Unit ⊕ Unit)) :=
 if decide (p1 < (a0.length:Int)) = true then
  (at? a0 p1).bind fun (x2:aE) =>
  (at? a1 p1).bind fun (x3:Int) =>
  if (x3 != 0) = true then
   (qM x2 a2).bind fun (r4:Bool) =>
   if (!(r4)) = true then
    some (.inr (.inr (())))
   else
    some (.inl (IntKind.wrap .i64 (p1 + 1)))
  else
   some (.inl (IntKind.wrap .i64 (p1 + 1)))
 else
  some (.inr (.inl ()))
def xR (a0:List aE) (a1 a2:List Int) (p1:Int):Option (Unit ⊕ Unit) :=
 dK (fun (w:Int)=>qL a0 a1 a2 w) p1
def uF (a0:List aE) (a1 a2:List Int):Option (Bool) :=
 if ((a1.length:Int) != (a0.length:Int)) = true then
  some false
 else
  (xR a0 a1 a2 0).bind fun (r5:Unit ⊕ Unit)=>Sum.elim (fun z6 =>
  some true) (fun z7 =>
  some false) r5
def i6 (p12:Bool) (r1:(List aE)) (r3:(List Int) × (List Int) × Int) (r8:(List Int) × (List bH)) (p15:Bool):Option (Bool) :=
 if p12 = true then
  if p15 = true then
   (at? r8.2 1).bind fun (x16:bH) =>
   if ((x16.Kind == 6) && ((x16.Who == 1) && ((x16.To == 0) && ((x16.Part == 0) && ((x16.At == 0) && ((x16.Sum == 2) && ((x16.Day == 9) && ((x16.City == 0) && (x16.Form == 0))))))))) = true then
    (gZ r1).bind fun (r17:(List Int)) =>
    (iG r17 [1,7]).bind fun (r18:Bool) =>
    if r18 = true then
     (uF r1 r3.1 [1]).bind fun (r19:Bool) =>
     if r19 = true then
      (uF r1 r3.1 [7]).bind fun (r20:Bool) =>
      if (!(r20)) = true then
       (j6 3 r1).bind fun (r21:Int) =>
       if (r21 == 0) = true then
        (j6 2 r1).bind fun (r22:Int) =>
        some (r22 == 1)
       else
        some (false)
      else
       some (false)
     else
      some (false)
    else
     some (false)
   else
    some (false)
  else
   some (false)
 else
  some (false)
def jA (r1:(List aE)) (r3:(List Int) × (List Int) × Int) (r5 r6 r7:(List (List Int)) × Int) (r8:(List Int) × (List bH)) (p12:Bool):Option (Bool) :=
 (iL r5.1 [[1],[7]]).bind fun (r13:Bool) =>
 if r13 = true then
  (iL r6.1 [[7]]).bind fun (r14:Bool) =>
  if r14 = true then
   (i6 p12 r1 r3 r8 ((r7.1.length:Int) == 0)).bind fun (r24:Bool) =>
   some (r24)
  else
   (i6 p12 r1 r3 r8 false).bind fun (r25:Bool) =>
   some (r25)
 else
  (i6 p12 r1 r3 r8 false).bind fun (r26:Bool) =>
  some (r26)
def gQ:Option (Bool) :=
 (mR).bind fun (r1:(List aE)) =>
 (cQ 3 r1 []).bind fun (r2:(List Int) × (List Int) × Int) =>
 (cQ 3 r1 [1]).bind fun (r3:(List Int) × (List Int) × Int) =>
 (cQ 3 r1 [1,7]).bind fun (r4:(List Int) × (List Int) × Int) =>
 (gB 3 r1 []).bind fun (r5:(List (List Int)) × Int) =>
 (gB 3 r1 [1]).bind fun (r6:(List (List Int)) × Int) =>
 (gB 3 r1 [1,7]).bind fun (r7:(List (List Int)) × Int) =>
 (sM r1 r3.1 9 0).bind fun (r8:(List Int) × (List bH)) =>
 if (r2.2.2 != 0) = true then
  some false
 else
  if (r3.2.2 != 0) = true then
   some false
  else
   if (r4.2.2 != 0) = true then
    some false
   else
    if (r5.2 != 0) = true then
     some false
    else
     if (r6.2 != 0) = true then
      some false
     else
      if (r7.2 != 0) = true then
       some false
      else
       if ((r8.1.length:Int) != 2) = true then
        some false
       else
        if ((r8.2.length:Int) != 2) = true then
         some false
        else
         (iG r2.1 [0,0,0,0]).bind fun (r9:Bool) =>
         if r9 = true then
          (iG r3.1 [2,0,0,2]).bind fun (r10:Bool) =>
          if r10 = true then
           (iG r4.1 [5,5,5,0]).bind fun (r11:Bool) =>
           (jA r1 r3 r5 r6 r7 r8 r11).bind fun (r28:Bool) =>
           some r28
          else
           (jA r1 r3 r5 r6 r7 r8 false).bind fun (r29:Bool) =>
           some r29
         else
          (jA r1 r3 r5 r6 r7 r8 false).bind fun (r30:Bool) =>
          some r30
def cA (a0:List aE) (p1:Int) (p2:List aH):Option ((Int × (List aH)) ⊕ ((List aH))) :=
 if decide (p1 < (a0.length:Int)) = true then
  (at? a0 p1).bind fun (x3:aE) =>
  (at? a0 p1).bind fun (x4:aE) =>
  (at? a0 p1).bind fun (x5:aE) =>
  if (p2.length + 1) * 24 <= 140737488355328 then
   some (.inl (IntKind.wrap .i64 (p1 + 1),p2 ++ [(aH.mk x3.From x4.To x5.Sum)]))
  else none
 else
  some (.inr (p2))
def mN (a0:List aE) (p1:Int) (p2:List aH):Option ((List aH)) :=
 dK (fun (w:Int × (List aH))=>cA a0 w.1 w.2) (p1,p2)
def jU (a0:List aE):Option ((List aH)) :=
 (mN a0 0 []).bind fun (r7:(List aH)) =>
 some r7
def bS (a0:Int) (a1:List aH) (p1:Int):Option ((Int) ⊕ (Unit ⊕ Unit)) :=
 if decide (p1 < (a1.length:Int)) = true then
  if decide (p1 < 20) = true then
   (at? a1 p1).bind fun (x2:aH) =>
   if decide (x2.Sum > 12) = true then
    (at? a1 p1).bind fun (x3:aH) =>
    if decide (x3.Sum <= 1099511627776) = true then
     some (.inr (.inr (())))
    else
     some (.inl (IntKind.wrap .i64 (p1 + 1)))
   else
    some (.inl (IntKind.wrap .i64 (p1 + 1)))
  else
   some (.inr (.inl ()))
 else
  some (.inr (.inl ()))
def j8 (a0:Int) (a1:List aH) (p1:Int):Option (Unit ⊕ Unit) :=
 dK (fun (w:Int)=>bS a0 a1 w) p1
def kK (a0:Int) (a1:List aH):Option (Bool) :=
 (j8 a0 a1 0).bind fun (r4:Unit ⊕ Unit)=>Sum.elim (fun z5 =>
 if decide (a0 <= 6) = true then
   if decide ((a1.length:Int) <= 9) = true then
    some true
   else
    if decide ((a1.length:Int) > 100) = true then
     some (decide ((a1.length:Int) < 200))
    else
     some false
  else
   if decide (a0 > 40) = true then
    if decide ((a1.length:Int) <= 9) = true then
     some true
    else
     if decide ((a1.length:Int) > 100) = true then
      some (decide ((a1.length:Int) < 200))
     else
      some false
   else
    some false) (fun z6 =>
 some false) r4
def bI (a0:List Int) (a1 p1:Int):Option ((Int) ⊕ (Unit ⊕ Unit)) :=
 if decide (p1 < (a0.length:Int)) = true then
  (at? a0 p1).bind fun (x2:Int) =>
  if (x2 == a1) = true then
   some (.inr (.inr (())))
  else
   some (.inl (IntKind.wrap .i64 (p1 + 1)))
 else
  some (.inr (.inl ()))
def kE (a0:List Int) (a1 p1:Int):Option (Unit ⊕ Unit) :=
 dK (fun (w:Int)=>bI a0 a1 w) p1
def eR (a0:List Int) (a1:Int):Option (Bool) :=
 (kE a0 a1 0).bind fun (r3:Unit ⊕ Unit)=>Sum.elim (fun z4 =>
 some false) (fun z5 =>
 some true) r3
def dT (a0:List Int) (a1 p3:Int) (p6:Bool) (p7:List Int):Option ((List Int)) :=
 (at? a0 p3).bind fun (x8:Int) =>
 if (p7.length + 1) * 8 <= 140737488355328 then
  some (p7 ++ [x8])
 else none
def aL (a0:List Int) (a1:Int) (p2:Bool) (p3:Int) (p4:List Int):Option ((Bool × Int × (List Int)) ⊕ (Bool × (List Int))) :=
 if decide (p3 < (a0.length:Int)) = true then
  if (!(p2)) = true then
   (at? a0 p3).bind fun (x5:Int) =>
   if decide (a1 < x5) = true then
    if (p4.length + 1) * 8 <= 140737488355328 then
     (dT a0 a1 p3 true (p4 ++ [a1])).bind fun (r10:(List Int)) =>
     some (.inl (true,IntKind.wrap .i64 (p3 + 1),r10))
    else none
   else
    (dT a0 a1 p3 p2 p4).bind fun (r11:(List Int)) =>
    some (.inl (p2,IntKind.wrap .i64 (p3 + 1),r11))
  else
   (dT a0 a1 p3 p2 p4).bind fun (r12:(List Int)) =>
   some (.inl (p2,IntKind.wrap .i64 (p3 + 1),r12))
 else
  some (.inr ((p2,p4)))
def kB (a0:List Int) (a1:Int) (p2:Bool) (p3:Int) (p4:List Int):Option (Bool × (List Int)) :=
 dK (fun (w:Bool × Int × (List Int))=>aL a0 a1 w.1 w.2.1 w.2.2) (p2,p3,p4)
def gU (a0:List Int) (a1:Int):Option ((List Int)) :=
 (eR a0 a1).bind fun (r1:Bool) =>
 if r1 = true then
  some a0
 else
  (kB a0 a1 false 0 []).bind fun (r15:Bool × (List Int)) =>
  if (!(r15.1)) = true then
   if (r15.2.length + 1) * 8 <= 140737488355328 then
    some (r15.2 ++ [a1])
   else none
  else
   some r15.2
def aZ (a0:List aE) (p2:Int) (p3:List Int) (p4:Int):Option (((List Int) × Int) ⊕ ((List Int))) :=
 (at? a0 p2).bind fun (x5:aE) =>
 if decide (p4 < (x5.Rights.length:Int)) = true then
  (at? a0 p2).bind fun (x6:aE) =>
  (at? x6.Rights p4).bind fun (x7:aJ) =>
  (gU p3 x7.Owner).bind fun (r8:(List Int)) =>
  some (.inl (r8,IntKind.wrap .i64 (p4 + 1)))
 else
  some (.inr (p3))
def eO (a0:List aE) (p2:Int) (p3:List Int) (p4:Int):Option ((List Int)) :=
 dK (fun (w:(List Int) × Int)=>aZ a0 p2 w.1 w.2) (p3,p4)
def aU (a0:List aE) (p1:List Int) (p2:Int):Option (((List Int) × Int) ⊕ ((List Int))) :=
 if decide (p2 < (a0.length:Int)) = true then
  (eO a0 p2 p1 0).bind fun (r10:(List Int)) =>
  some (.inl (r10,IntKind.wrap .i64 (p2 + 1)))
 else
  some (.inr (p1))
def iM (a0:List aE) (p1:List Int) (p2:Int):Option ((List Int)) :=
 dK (fun (w:(List Int) × Int)=>aU a0 w.1 w.2) (p1,p2)
def eV (a0:List aE):Option ((List Int)) :=
 (iM a0 [] 0).bind fun (r12:(List Int)) =>
 some r12
def b5 (a0:Int) (a1:List aE) (p1:Int):Option ((Int) ⊕ (Unit ⊕ Unit)) :=
 if decide (p1 < (a1.length:Int)) = true then
  (at? a1 p1).bind fun (x2:aE) =>
  if decide ((x2.Rights.length:Int) > 12) = true then
   some (.inr (.inr (())))
  else
   some (.inl (IntKind.wrap .i64 (p1 + 1)))
 else
  some (.inr (.inl ()))
def kH (a0:Int) (a1:List aE) (p1:Int):Option (Unit ⊕ Unit) :=
 dK (fun (w:Int)=>b5 a0 a1 w) p1
def gV (a0:Int) (a1:List aE):Option (Bool) :=
 (kH a0 a1 0).bind fun (r3:Unit ⊕ Unit)=>Sum.elim (fun z4 =>
 if decide ((a1.length:Int) <= 9) = true then
   (jU a1).bind fun (r6:(List aH)) =>
   (kK a0 r6).bind fun (r7:Bool) =>
   if r7 = true then
    (eV a1).bind fun (r8:(List Int)) =>
    some (decide ((r8.length:Int) <= 4))
   else
    some false
  else
   some false) (fun z5 =>
 some false) r3
def fJ (a0 a1:List Int) (p1:Int) (p3:List Int) (p8:Int):Option ((List Int)) :=
 (at? a0 p1).bind fun (x9:Int) =>
 if (p3.length + 1) * 8 <= 140737488355328 then
  some (p3 ++ [x9])
 else none
def fK (a0 a1:List Int) (p1 p2:Int) (p3:List Int):Option (Int × (List Int)) :=
 if decide (p2 < (a1.length:Int)) = true then
  (at? a0 p1).bind fun (x6:Int) =>
  (at? a1 p2).bind fun (x7:Int) =>
  if (x6 == x7) = true then
   (fJ a0 a1 p1 p3 (IntKind.wrap .i64 (p2 + 1))).bind fun (r11:(List Int)) =>
   some (((IntKind.wrap .i64 (p2 + 1)),r11))
  else
   (fJ a0 a1 p1 p3 p2).bind fun (r12:(List Int)) =>
   some ((p2,r12))
 else
  (fJ a0 a1 p1 p3 p2).bind fun (r13:(List Int)) =>
  some ((p2,r13))
def cC (a0 a1:List Int) (p1 p2:Int) (p3:List Int):Option (Int × Int × (List Int)) :=
 if decide (p2 ≥ (a1.length:Int)) = true then
  (fK a0 a1 p1 p2 p3).bind fun (r16:Int × (List Int)) =>
  some ((IntKind.wrap .i64 (p1 + 1),r16.1,r16.2))
 else
  if decide (p1 < (a0.length:Int)) = true then
   (at? a0 p1).bind fun (x4:Int) =>
   (at? a1 p2).bind fun (x5:Int) =>
   if decide (x4 <= x5) = true then
    (fK a0 a1 p1 p2 p3).bind fun (r17:Int × (List Int)) =>
    some ((IntKind.wrap .i64 (p1 + 1),r17.1,r17.2))
   else
    (at? a1 p2).bind fun (x18:Int) =>
    if (p3.length + 1) * 8 <= 140737488355328 then
     some ((p1,IntKind.wrap .i64 (p2 + 1),p3 ++ [x18]))
    else none
  else
   (at? a1 p2).bind fun (x19:Int) =>
   if (p3.length + 1) * 8 <= 140737488355328 then
    some ((p1,IntKind.wrap .i64 (p2 + 1),p3 ++ [x19]))
   else none
def bK (a0 a1:List Int) (p1 p2:Int) (p3:List Int):Option ((Int × Int × (List Int)) ⊕ ((List Int))) :=
 if decide (p1 < (a0.length:Int)) = true then
  (cC a0 a1 p1 p2 p3).bind fun (r23:Int × Int × (List Int)) =>
  some (.inl (r23.1,r23.2.1,r23.2.2))
 else
  if decide (p2 < (a1.length:Int)) = true then
   (cC a0 a1 p1 p2 p3).bind fun (r24:Int × Int × (List Int)) =>
   some (.inl (r24.1,r24.2.1,r24.2.2))
  else
   some (.inr (p3))
def mQ (a0 a1:List Int) (p1 p2:Int) (p3:List Int):Option ((List Int)) :=
 dK (fun (w:Int × Int × (List Int))=>bK a0 a1 w.1 w.2.1 w.2.2) (p1,p2,p3)
def fD (a0 a1:List Int):Option ((List Int)) :=
 (mQ a0 a1 0 0 []).bind fun (r26:(List Int)) =>
 some r26
def bO (a0:Int) (a1:List aE) (a2:List Int) (p7:Int) (r1:Bool) (r3:(List (List Int)) × Int) (r5:Int) (r6:(List Int)) (x8:List Int) (p12:Int):Option ((Int) ⊕ (Unit ⊕ Unit)) :=
 if decide (p12 < (x8.length:Int)) = true then
  if jJ x8.length 0 p12 then
   if (0 + (iR x8 0 p12).length) * 8 <= 140737488355328 then
    if jJ x8.length (IntKind.wrap .i64 (p12 + 1)) (x8.length:Int) then
     if ((([]:List Int) ++ (iR x8 0 p12)).length + (iR x8 (IntKind.wrap .i64 (p12 + 1)) (x8.length:Int)).length) * 8 <= 140737488355328 then
      (fD a2 ((([]:List Int) ++ (iR x8 0 p12)) ++ (iR x8 (IntKind.wrap .i64 (p12 + 1)) (x8.length:Int)))).bind fun (r13:(List Int)) =>
      (cQ a0 a1 r13).bind fun (r14:(List Int) × (List Int) × Int) =>
      if (r14.2.2 != 0) = true then
       some (.inr (.inr (())))
      else
       (dN r14.1).bind fun (r15:Int) =>
       if (r15 != r5) = true then
        some (.inr (.inr (())))
       else
        (at? x8 p12).bind fun (x16:Int) =>
        (eR r6 x16).bind fun (r17:Bool) =>
        if (!(r17)) = true then
         some (.inr (.inr (())))
        else
         (at? x8 p12).bind fun (x18:Int) =>
         (eR a2 x18).bind fun (r19:Bool) =>
         if r19 = true then
          some (.inr (.inr (())))
         else
          some (.inl (IntKind.wrap .i64 (p12 + 1)))
     else none
    else none
   else none
  else none
 else
  some (.inr (.inl ()))
def hJ (a0:Int) (a1:List aE) (a2:List Int) (p7:Int) (r1:Bool) (r3:(List (List Int)) × Int) (r5:Int) (r6:(List Int)) (x8:List Int) (p12:Int):Option (Unit ⊕ Unit) :=
 dK (fun (w:Int)=>bO a0 a1 a2 p7 r1 r3 r5 r6 x8 w) p12
def bN (a0:Int) (a1:List aE) (a2:List Int) (r1:Bool) (r3:(List (List Int)) × Int) (r5:Int) (r6:(List Int)) (p7:Int):Option ((Int) ⊕ (Unit ⊕ Unit)) :=
 if decide (p7 < (r3.1.length:Int)) = true then
  (at? r3.1 p7).bind fun (x8:List Int) =>
  (fD a2 x8).bind fun (r9:(List Int)) =>
  (cQ a0 a1 r9).bind fun (r10:(List Int) × (List Int) × Int) =>
  if ((x8.length:Int) == 0) = true then
   some (.inr (.inr (())))
  else
   if (r10.2.2 != 0) = true then
    some (.inr (.inr (())))
   else
    (dN r10.1).bind fun (r11:Int) =>
    if decide (r11 <= r5) = true then
     some (.inr (.inr (())))
    else
     (hJ a0 a1 a2 p7 r1 r3 r5 r6 x8 0).bind fun (r20:Unit ⊕ Unit)=>Sum.elim (fun z21 =>
     some (.inl (IntKind.wrap .i64 (p7 + 1)))) (fun z22 =>
     some (.inr (.inr (())))) r20
 else
  some (.inr (.inl ()))
def hU (a0:Int) (a1:List aE) (a2:List Int) (r1:Bool) (r3:(List (List Int)) × Int) (r5:Int) (r6:(List Int)) (p7:Int):Option (Unit ⊕ Unit) :=
 dK (fun (w:Int)=>bN a0 a1 a2 r1 r3 r5 r6 w) p7
def gL (a0:Int) (a1:List aE) (a2:List Int):Option (Bool) :=
 (gQ).bind fun (r1:Bool) =>
 (gV a0 a1).bind fun (r2:Bool) =>
 if (!(r2)) = true then
  some r1
 else
  if decide ((a2.length:Int) > 20) = true then
   some r1
  else
   (gB a0 a1 a2).bind fun (r3:(List (List Int)) × Int) =>
   (cQ a0 a1 a2).bind fun (r4:(List Int) × (List Int) × Int) =>
   if (r3.2 != 0) = true then
    if r1 = true then
     if (r3.2 == r4.2.2) = true then
      some ((r3.1.length:Int) == 0)
     else
      some false
    else
     some false
   else
    if (r4.2.2 != 0) = true then
     if r1 = true then
      if (r3.2 == r4.2.2) = true then
       some ((r3.1.length:Int) == 0)
      else
       some false
     else
      some false
    else
     (dN r4.1).bind fun (r5:Int) =>
     (gZ a1).bind fun (r6:(List Int)) =>
     (hU a0 a1 a2 r1 r3 r5 r6 0).bind fun (r23:Unit ⊕ Unit)=>Sum.elim (fun z24 =>
     (fD a2 r6).bind fun (r26:(List Int)) =>
      (cQ a0 a1 r26).bind fun (r27:(List Int) × (List Int) × Int) =>
      if r1 = true then
       if (r27.2.2 == 0) = true then
        (dN r27.1).bind fun (r28:Int) =>
        some ((decide (r28 > r5)) == (decide ((r3.1.length:Int) > 0)))
       else
        some false
      else
       some false) (fun z25 =>
     some false) r23
end
end Go.Proofs.Ytgjcnbgfaimepaa
