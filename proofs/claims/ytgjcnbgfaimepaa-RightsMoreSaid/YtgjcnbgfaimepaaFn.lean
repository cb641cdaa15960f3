/- What the functions compute, as plain definitions. Printed by a program. -/
import Derived.Test.YtgjcnbgfaimepaaTab
set_option linter.unusedVariables false
set_option linter.unusedSimpArgs false
namespace Go.Proofs.Ytgjcnbgfaimepaa
noncomputable section
open Vm
open Go.RowKit
def lK:Option ((List aE)) :=
 some [(aE.mk 0 1 5 0 0 0 []),(aE.mk 1 2 5 0 0 0 [(aJ.mk 0 7)]),(aE.mk 2 0 5 0 0 0 []),(aE.mk 1 0 2 0 0 0 [(aJ.mk 3 1)])]
def uJ (a0:aE):Option (aF) :=
 some (aF.mk a0.From a0.To a0.Sum)
def mZ (a0 a1:Int):Option (Bool) :=
 if decide (a0 ≥ 0) = true then
  some (decide (a0 < a1))
 else
  some false
def dF (a0:Int) (a1:List aF) (p1:Int):Option ((Int) ⊕ (Unit ⊕ Unit)) :=
 if decide (p1 < (a1.length:Int)) = true then
  (at? a1 p1).bind fun (x2:aF) =>
  if decide (x2.From < 0) = true then
   some (.inr (.inr (())))
  else
   if decide (x2.From ≥ a0) = true then
    some (.inr (.inr (())))
   else
    if decide (x2.To < 0) = true then
     some (.inr (.inr (())))
    else
     if decide (x2.To ≥ a0) = true then
      some (.inr (.inr (())))
     else
      if (x2.From == x2.To) = true then
       some (.inr (.inr (())))
      else
       if decide (x2.Sum < 1) = true then
        some (.inr (.inr (())))
       else
        if decide (x2.Sum > 1099511627776) = true then
         some (.inr (.inr (())))
        else
         some (.inl (IntKind.wrap .i64 (p1 + 1)))
 else
  some (.inr (.inl ()))
def kZ (a0:Int) (a1:List aF) (p1:Int):Option (Unit ⊕ Unit) :=
 dO (fun (w:Int)=>dF a0 a1 w) p1
def iR (a0:Int) (a1:List aF):Option (Bool) :=
 if decide (a0 < 0) = true then
  some false
 else
  if decide (a0 > 40) = true then
   some false
  else
   if decide ((a1.length:Int) > 100) = true then
    some false
   else
    (kZ a0 a1 0).bind fun (r3:Unit ⊕ Unit)=>Sum.elim (fun z4 =>
    some true) (fun z5 =>
    some false) r3
def eH (a0:Int) (a1:List aE) (p1:Int) (p2:List aF) (r4:aF) (x3:aE) (p8:Int):Option ((Int) ⊕ (Unit ⊕ Unit)) :=
 if decide (p8 < (x3.Rights.length:Int)) = true then
  (at? x3.Rights p8).bind fun (x9:aJ) =>
  (mZ x9.Kind 4).bind fun (r10:Bool) =>
  if (!(r10)) = true then
   some (.inr (.inr (())))
  else
   (mZ x9.Owner 200).bind fun (r11:Bool) =>
   if (!(r11)) = true then
    some (.inr (.inr (())))
   else
    some (.inl (IntKind.wrap .i64 (p8 + 1)))
 else
  some (.inr (.inl ()))
def n7 (a0:Int) (a1:List aE) (p1:Int) (p2:List aF) (r4:aF) (x3:aE) (p8:Int):Option (Unit ⊕ Unit) :=
 dO (fun (w:Int)=>eH a0 a1 p1 p2 r4 x3 w) p8
def eG (a0:Int) (a1:List aE) (p1:Int) (p2:List aF):Option ((Int × (List aF)) ⊕ (((List aF)) ⊕ Unit)) :=
 if decide (p1 < (a1.length:Int)) = true then
  (at? a1 p1).bind fun (x3:aE) =>
  (uJ x3).bind fun (r4:aF) =>
  if (p2.length + 1) * 24 <= 140737488355328 then
   (mZ x3.File 50).bind fun (r5:Bool) =>
   if (!(r5)) = true then
    some (.inr (.inr (())))
   else
    (mZ x3.Part 4).bind fun (r6:Bool) =>
    if (!(r6)) = true then
     some (.inr (.inr (())))
    else
     (mZ x3.Sign 40).bind fun (r7:Bool) =>
     if (!(r7)) = true then
      some (.inr (.inr (())))
     else
      if decide ((x3.Rights.length:Int) > 8) = true then
       some (.inr (.inr (())))
      else
       (n7 a0 a1 p1 p2 r4 x3 0).bind fun (r12:Unit ⊕ Unit)=>Sum.elim (fun z13 =>
       some (.inl (IntKind.wrap .i64 (p1 + 1),p2 ++ [r4]))) (fun z14 =>
       some (.inr (.inr (())))) r12
  else none
 else
  some (.inr (.inl p2))
def nP (a0:Int) (a1:List aE) (p1:Int) (p2:List aF):Option (((List aF)) ⊕ Unit) :=
 dO (fun (w:Int × (List aF))=>eG a0 a1 w.1 w.2) (p1,p2)
def iD (a0:Int) (a1:List aE):Option (Int) :=
 (nP a0 a1 0 []).bind fun (r16:((List aF)) ⊕ Unit)=>Sum.elim (fun z17 =>
 (iR a0 z17).bind fun (r19:Bool) =>
  if (!(r19)) = true then
   some 1
  else
   some 0) (fun z18 =>
 some 1) r16
def eJ (a0:List Int) (p1 p2:Int):Option ((Int × Int) ⊕ (Unit ⊕ Unit)) :=
 if decide (p2 < (a0.length:Int)) = true then
  (at? a0 p2).bind fun (x3:Int) =>
  if decide (x3 <= p1) = true then
   some (.inr (.inr (())))
  else
   if decide (x3 ≥ 200) = true then
    some (.inr (.inr (())))
   else
    some (.inl (x3,IntKind.wrap .i64 (p2 + 1)))
 else
  some (.inr (.inl ()))
def rF (a0:List Int) (p1 p2:Int):Option (Unit ⊕ Unit) :=
 dO (fun (w:Int × Int)=>eJ a0 w.1 w.2) (p1,p2)
def m9 (a0:List Int):Option (Bool) :=
 (rF a0 (-1) 0).bind fun (r4:Unit ⊕ Unit)=>Sum.elim (fun z5 =>
 some true) (fun z6 =>
 some false) r4
def bO (a0:List Int) (a1 p1:Int):Option ((Int) ⊕ (Unit ⊕ Int)) :=
 if decide (p1 < (a0.length:Int)) = true then
  (at? a0 p1).bind fun (x2:Int) =>
  if (a1 == x2) = true then
   some (.inr (.inr (p1)))
  else
   some (.inl (IntKind.wrap .i64 (p1 + 1)))
 else
  some (.inr (.inl ()))
def jH (a0:List Int) (a1 p1:Int):Option (Unit ⊕ Int) :=
 dO (fun (w:Int)=>bO a0 a1 w) p1
def fZ (a0:List Int) (a1:Int):Option (Int) :=
 (jH a0 a1 0).bind fun (r4:Unit ⊕ Int)=>Sum.elim (fun z5 =>
 some (-1)) (fun z6 =>
 some z6) r4
def cP (a0:List Int) (a1:Int):Option (Bool) :=
 (fZ a0 a1).bind fun (r1:Int) =>
 some (decide (r1 ≥ 0))
def mO (a0:aJ) (a1:List Int):Option (Bool) :=
 (cP a1 a0.Owner).bind fun (r1:Bool) =>
 some (!(r1))
def aR (a0:List aJ) (a1:List Int) (p1:Int):Option ((Int) ⊕ (Unit ⊕ Int)) :=
 if decide (p1 < (a0.length:Int)) = true then
  (at? a0 p1).bind fun (x2:aJ) =>
  (mO x2 a1).bind fun (r3:Bool) =>
  if r3 = true then
   some (.inr (.inr (p1)))
  else
   some (.inl (IntKind.wrap .i64 (p1 + 1)))
 else
  some (.inr (.inl ()))
def cG (a0:List aJ) (a1:List Int) (p1:Int):Option (Unit ⊕ Int) :=
 dO (fun (w:Int)=>aR a0 a1 w) p1
def bW (a0:List aJ) (a1:List Int):Option (Int) :=
 (cG a0 a1 0).bind fun (r5:Unit ⊕ Int)=>Sum.elim (fun z6 =>
 some (-1)) (fun z7 =>
 some z7) r5
def bN (a0:List aJ) (a1:List Int):Option (Bool) :=
 (bW a0 a1).bind fun (r1:Int) =>
 some (decide (r1 ≥ 0))
def oF (a0:aE) (a1:List Int):Option (Bool) :=
 (bN a0.Rights a1).bind fun (r1:Bool) =>
 some (!(r1))
def jF (a0:List aF) (a1:List Int) (p1:Int) (x3:aF) (p6:List aC):Option ((List aC)) :=
 (at? a1 p1).bind fun (x7:Int) =>
 if decide (x7 > 0) = true then
  (at? a1 p1).bind fun (x8:Int) =>
  if (p6.length + 1) * 48 <= 140737488355328 then
   some (p6 ++ [(aC.mk p1 x3.To x3.From 1 x8 true)])
  else none
 else
  some (p6)
def cQ (a0:List aF) (a1:List Int) (p1:Int) (p2:List aC):Option ((Int × (List aC)) ⊕ ((List aC))) :=
 if decide (p1 < (a0.length:Int)) = true then
  (at? a0 p1).bind fun (x3:aF) =>
  (at? a1 p1).bind fun (x4:Int) =>
  if decide (x4 < x3.Sum) = true then
   (at? a1 p1).bind fun (x5:Int) =>
   if (p2.length + 1) * 48 <= 140737488355328 then
    (jF a0 a1 p1 x3 (p2 ++ [(aC.mk p1 x3.From x3.To (-1) (IntKind.wrap .i64 (x3.Sum - x5)) false)])).bind fun (r10:(List aC)) =>
    some (.inl (IntKind.wrap .i64 (p1 + 1),r10))
   else none
  else
   (jF a0 a1 p1 x3 p2).bind fun (r11:(List aC)) =>
   some (.inl (IntKind.wrap .i64 (p1 + 1),r11))
 else
  some (.inr (p2))
def oK (a0:List aF) (a1:List Int) (p1:Int) (p2:List aC):Option ((List aC)) :=
 dO (fun (w:Int × (List aC))=>cQ a0 a1 w.1 w.2) (p1,p2)
def fJ (a0:List aF) (a1:List Int):Option ((List aC)) :=
 (oK a0 a1 0 []).bind fun (r13:(List aC)) =>
 some r13
def fQ (a0:List Int) (a1:Int):Option ((List Int)):=aR4 a0 a1
def fP (a0:aD) (a1:aC):Option (aD) :=
 some (aD.mk (IntKind.wrap .i64 (a0.c + a1.cost)) (IntKind.wrap .i64 (a0.steps + 1)) a0.fine)
def dX (a0 a1:aD):Option (Bool) :=
 if a0.fine = true then
  if (!(a1.fine)) = true then
   some true
  else
   if decide (a0.c < a1.c) = true then
    some true
   else
    if (a0.c == a1.c) = true then
     some (decide (a0.steps < a1.steps))
    else
     some false
 else
  some false
def bU (a0:Int) (a1:List aC) (a2:List Int) (p1:Int) (p2:List aD):Option ((Int × (List aD)) ⊕ ((List aD))) :=
 if decide (p1 < a0) = true then
  (at? a2 p1).bind fun (x3:Int) =>
  if 0 <= p1 ∧ p1.toNat < p2.length then
   (p2[p1.toNat]?).bind fun (x4:aD) =>
   some (.inl (IntKind.wrap .i64 (p1 + 1),p2.set p1.toNat (aD.mk x4.c x4.steps (decide (x3 > 0)))))
  else none
 else
  some (.inr (p2))
def jE (a0:Int) (a1:List aC) (a2:List Int) (p1:Int) (p2:List aD):Option ((List aD)) :=
 dO (fun (w:Int × (List aD))=>bU a0 a1 a2 w.1 w.2) (p1,p2)
def cZ (a1:List aC) (p11:Bool) (p12:Int) (p13:List aD) (p14:List Int):Option ((Bool × Int × (List aD) × (List Int)) ⊕ (Bool × (List aD) × (List Int))) :=
 if decide (p12 < (a1.length:Int)) = true then
  (at? a1 p12).bind fun (x15:aC) =>
  if 0 <= x15.from_ ∧ x15.from_.toNat < p13.length then
   (p13[x15.from_.toNat]?).bind fun (x16:aD) =>
   (fP x16 x15).bind fun (r17:aD) =>
   if 0 <= x15.to ∧ x15.to.toNat < p13.length then
    (p13[x15.to.toNat]?).bind fun (x18:aD) =>
    (dX r17 x18).bind fun (r19:Bool) =>
    if r19 = true then
     if 0 <= x15.to ∧ x15.to.toNat < p13.length then
      (p13[x15.to.toNat]?).bind fun (x20:aD) =>
      if 0 <= x15.to ∧ x15.to.toNat < p14.length then
       (p14[x15.to.toNat]?).bind fun (x21:Int) =>
       some (.inl (true,IntKind.wrap .i64 (p12 + 1),p13.set x15.to.toNat r17,p14.set x15.to.toNat p12))
      else none
     else none
    else
     some (.inl (p11,IntKind.wrap .i64 (p12 + 1),p13,p14))
   else none
  else none
 else
  some (.inr ((p11,p13,p14)))
def jB (a1:List aC) (p11:Bool) (p12:Int) (p13:List aD) (p14:List Int):Option (Bool × (List aD) × (List Int)) :=
 dO (fun (w:Bool × Int × (List aD) × (List Int))=>cZ a1 w.1 w.2.1 w.2.2.1 w.2.2.2) (p11,p12,p13,p14)
def eW (a1:List aC) (p8:Bool) (p9:List aD) (p10:List Int):Option ((Bool × (List aD) × (List Int)) ⊕ ((List aD) × (List Int))) :=
 if p8 = true then
  (jB a1 false 0 p9 p10).bind fun (r25:Bool × (List aD) × (List Int)) =>
  some (.inl (r25.1,r25.2.1,r25.2.2))
 else
  some (.inr ((p9,p10)))
def jA (a1:List aC) (p8:Bool) (p9:List aD) (p10:List Int):Option ((List aD) × (List Int)) :=
 dO (fun (w:Bool × (List aD) × (List Int))=>eW a1 w.1 w.2.1 w.2.2) (p8,p9,p10)
def fH (a0:Int) (a1:List aC) (a2:List Int):Option ((List aD) × (List Int)) :=
 if 0 <= a0 ∧ a0 <= a0 ∧ 24 * a0 <= 281474976710656 ∧ a0 <= 9223372036854775807 then
  (jE a0 a1 a2 0 (List.replicate a0.toNat ((aD.mk 0 0 false):aD))).bind fun (r6:(List aD)) =>
  (fQ [(-1)] (r6.length:Int)).bind fun (r7:(List Int)) =>
  (jA a1 true r6 r7).bind fun (r28:(List aD) × (List Int)) =>
  some (r28.1,r28.2)
 else none
def eY (a0:aC) (a1:List Int) (p1:Int):Option ((List Int)) :=
 if 0 <= a0.due ∧ a0.due.toNat < a1.length then
  (a1[a0.due.toNat]?).bind fun (x2:Int) =>
  if 0 <= a0.due ∧ a0.due.toNat < a1.length then
   (a1[a0.due.toNat]?).bind fun (x3:Int) =>
   some (a1.set a0.due.toNat (IntKind.wrap .i64 (x2 + p1)))
  else none
 else none
def dY (a0:aC) (a1:List Int) (a2:Int):Option ((List Int)) :=
 if a0.back = true then
  (eY a0 a1 (IntKind.wrap .i64 (0 - a2))).bind fun (r5:(List Int)) =>
  some r5
 else
  (eY a0 a1 a2).bind fun (r6:(List Int)) =>
  some r6
def b6 (a0:Int) (a1:List aF) (a2:List Int) (p1:Int) (p2:List Int):Option ((Int × (List Int)) ⊕ ((List Int))) :=
 if decide (p1 < (a1.length:Int)) = true then
  (at? a1 p1).bind fun (x3:aF) =>
  if 0 <= x3.To ∧ x3.To.toNat < p2.length then
   (p2[x3.To.toNat]?).bind fun (x4:Int) =>
   if 0 <= p1 ∧ p1.toNat < a2.length then
    (a2[p1.toNat]?).bind fun (x5:Int) =>
    if 0 <= x3.To ∧ x3.To.toNat < p2.length then
     (p2[x3.To.toNat]?).bind fun (x6:Int) =>
     if 0 <= x3.From ∧ x3.From.toNat < (p2.set x3.To.toNat (IntKind.wrap .i64 (x4 + x5))).length then
      ((p2.set x3.To.toNat (IntKind.wrap .i64 (x4 + x5)))[x3.From.toNat]?).bind fun (x7:Int) =>
      if 0 <= p1 ∧ p1.toNat < a2.length then
       (a2[p1.toNat]?).bind fun (x8:Int) =>
       if 0 <= x3.From ∧ x3.From.toNat < (p2.set x3.To.toNat (IntKind.wrap .i64 (x4 + x5))).length then
        ((p2.set x3.To.toNat (IntKind.wrap .i64 (x4 + x5)))[x3.From.toNat]?).bind fun (x9:Int) =>
        some (.inl (IntKind.wrap .i64 (p1 + 1),(p2.set x3.To.toNat (IntKind.wrap .i64 (x4 + x5))).set x3.From.toNat (IntKind.wrap .i64 (x7 - x8))))
       else none
      else none
     else none
    else none
   else none
  else none
 else
  some (.inr (p2))
def jL (a0:Int) (a1:List aF) (a2:List Int) (p1:Int) (p2:List Int):Option ((List Int)) :=
 dO (fun (w:Int × (List Int))=>b6 a0 a1 a2 w.1 w.2) (p1,p2)
def aU (a0:Int) (a1:List aF) (p12 p13:List Int) (r14:(List aC)) (r15:(List aD) × (List Int)) (p16 p17:Int):Option ((Int × Int) ⊕ (Int)) :=
 if decide (p17 < a0) = true then
  if 0 <= p17 ∧ p17.toNat < p12.length then
   (p12[p17.toNat]?).bind fun (x18:Int) =>
   if decide (x18 < 0) = true then
    if decide (p16 < 0) = true then
     if 0 <= p17 ∧ p17.toNat < r15.1.length then
      (r15.1[p17.toNat]?).bind fun (x19:aD) =>
      if x19.fine = true then
       some (.inl (p17,IntKind.wrap .i64 (p17 + 1)))
      else
       if decide (p16 ≥ 0) = true then
        if 0 <= p17 ∧ p17.toNat < r15.1.length then
         (r15.1[p17.toNat]?).bind fun (x20:aD) =>
         if 0 <= p16 ∧ p16.toNat < r15.1.length then
          (r15.1[p16.toNat]?).bind fun (x21:aD) =>
          (dX x20 x21).bind fun (r22:Bool) =>
          if r22 = true then
           some (.inl (p17,IntKind.wrap .i64 (p17 + 1)))
          else
           some (.inl (p16,IntKind.wrap .i64 (p17 + 1)))
         else none
        else none
       else
        some (.inl (p16,IntKind.wrap .i64 (p17 + 1)))
     else none
    else
     if decide (p16 ≥ 0) = true then
      if 0 <= p17 ∧ p17.toNat < r15.1.length then
       (r15.1[p17.toNat]?).bind fun (x23:aD) =>
       if 0 <= p16 ∧ p16.toNat < r15.1.length then
        (r15.1[p16.toNat]?).bind fun (x24:aD) =>
        (dX x23 x24).bind fun (r25:Bool) =>
        if r25 = true then
         some (.inl (p17,IntKind.wrap .i64 (p17 + 1)))
        else
         some (.inl (p16,IntKind.wrap .i64 (p17 + 1)))
       else none
      else none
     else
      some (.inl (p16,IntKind.wrap .i64 (p17 + 1)))
   else
    some (.inl (p16,IntKind.wrap .i64 (p17 + 1)))
  else none
 else
  some (.inr (p16))
def jO (a0:Int) (a1:List aF) (p12 p13:List Int) (r14:(List aC)) (r15:(List aD) × (List Int)) (p16 p17:Int):Option (Int) :=
 dO (fun (w:Int × Int)=>aU a0 a1 p12 p13 r14 r15 w.1 w.2) (p16,p17)
def dG (a0:Int) (a1:List aF) (p12 p13:List Int) (r14:(List aC)) (r15:(List aD) × (List Int)) (r27 p29 p30:Int):Option ((Int × Int) ⊕ (Int × Int)) :=
 if 0 <= p30 ∧ p30.toNat < r15.2.length then
  (r15.2[p30.toNat]?).bind fun (x31:Int) =>
  if decide (x31 ≥ 0) = true then
   if 0 <= p30 ∧ p30.toNat < r15.2.length then
    (r15.2[p30.toNat]?).bind fun (x32:Int) =>
    if 0 <= x32 ∧ x32.toNat < r14.length then
     (r14[x32.toNat]?).bind fun (x33:aC) =>
     if 0 <= p30 ∧ p30.toNat < r15.2.length then
      (r15.2[p30.toNat]?).bind fun (x34:Int) =>
      if 0 <= x34 ∧ x34.toNat < r14.length then
       (r14[x34.toNat]?).bind fun (x35:aC) =>
       some (.inl ((if x33.most < p29 then x33.most else p29),x35.from_))
      else none
     else none
    else none
   else none
  else
   some (.inr ((p29,p30)))
 else none
def fF (a0:Int) (a1:List aF) (p12 p13:List Int) (r14:(List aC)) (r15:(List aD) × (List Int)) (r27 p29 p30:Int):Option (Int × Int) :=
 dO (fun (w:Int × Int)=>dG a0 a1 p12 p13 r14 r15 r27 w.1 w.2) (p29,p30)
def dA (a0:Int) (a1:List aF) (p12:List Int) (r14:(List aC)) (r15:(List aD) × (List Int)) (r27:Int) (r38:Int × Int) (x39 p40:Int) (p41:List Int):Option ((Int × (List Int)) ⊕ ((List Int))) :=
 if 0 <= p40 ∧ p40.toNat < r15.2.length then
  (r15.2[p40.toNat]?).bind fun (x42:Int) =>
  if decide (x42 ≥ 0) = true then
   if 0 <= p40 ∧ p40.toNat < r15.2.length then
    (r15.2[p40.toNat]?).bind fun (x43:Int) =>
    if 0 <= x43 ∧ x43.toNat < r14.length then
     (r14[x43.toNat]?).bind fun (x44:aC) =>
     (dY x44 p41 (if x39 < r38.1 then x39 else r38.1)).bind fun (r45:(List Int)) =>
     if 0 <= p40 ∧ p40.toNat < r15.2.length then
      (r15.2[p40.toNat]?).bind fun (x46:Int) =>
      if 0 <= x46 ∧ x46.toNat < r14.length then
       (r14[x46.toNat]?).bind fun (x47:aC) =>
       some (.inl (x47.from_,r45))
      else none
     else none
    else none
   else none
  else
   some (.inr (p41))
 else none
def fI (a0:Int) (a1:List aF) (p12:List Int) (r14:(List aC)) (r15:(List aD) × (List Int)) (r27:Int) (r38:Int × Int) (x39 p40:Int) (p41:List Int):Option ((List Int)) :=
 dO (fun (w:Int × (List Int))=>dA a0 a1 p12 r14 r15 r27 r38 x39 w.1 w.2) (p40,p41)
def cO (a0:Int) (a1:List aF) (p12 p13:List Int):Option (((List Int) × (List Int)) ⊕ ((List Int))) :=
 (fJ a1 p13).bind fun (r14:(List aC)) =>
 (fH a0 r14 p12).bind fun (r15:(List aD) × (List Int)) =>
 (jO a0 a1 p12 p13 r14 r15 (-1) 0).bind fun (r27:Int) =>
 if decide (r27 < 0) = true then
  some (.inr (p13))
 else
  if 0 <= r27 ∧ r27.toNat < p12.length then
   (p12[r27.toNat]?).bind fun (x28:Int) =>
   (fF a0 a1 p12 p13 r14 r15 r27 (IntKind.wrap .i64 (0 - x28)) r27).bind fun (r38:Int × Int) =>
   if 0 <= r38.2 ∧ r38.2.toNat < p12.length then
    (p12[r38.2.toNat]?).bind fun (x39:Int) =>
    (fI a0 a1 p12 r14 r15 r27 r38 x39 r27 p13).bind fun (r49:(List Int)) =>
    if 0 <= r38.2 ∧ r38.2.toNat < p12.length then
     (p12[r38.2.toNat]?).bind fun (x50:Int) =>
     if 0 <= r38.2 ∧ r38.2.toNat < p12.length then
      (p12[r38.2.toNat]?).bind fun (x51:Int) =>
      if 0 <= r27 ∧ r27.toNat < (p12.set r38.2.toNat (IntKind.wrap .i64 (x50 - (if x39 < r38.1 then x39 else r38.1)))).length then
       ((p12.set r38.2.toNat (IntKind.wrap .i64 (x50 - (if x39 < r38.1 then x39 else r38.1))))[r27.toNat]?).bind fun (x52:Int) =>
       if 0 <= r27 ∧ r27.toNat < (p12.set r38.2.toNat (IntKind.wrap .i64 (x50 - (if x39 < r38.1 then x39 else r38.1)))).length then
        ((p12.set r38.2.toNat (IntKind.wrap .i64 (x50 - (if x39 < r38.1 then x39 else r38.1))))[r27.toNat]?).bind fun (x53:Int) =>
        some (.inl ((p12.set r38.2.toNat (IntKind.wrap .i64 (x50 - (if x39 < r38.1 then x39 else r38.1)))).set r27.toNat (IntKind.wrap .i64 (x52 + (if x39 < r38.1 then x39 else r38.1))),r49))
       else none
      else none
     else none
    else none
   else none
  else none
def mX (a0:Int) (a1:List aF) (p12 p13:List Int):Option ((List Int)) :=
 dO (fun (w:(List Int) × (List Int))=>cO a0 a1 w.1 w.2) (p12,p13)
def jW (a0:Int) (a1:List aF) (a2:List Int):Option ((List Int)) :=
 if 0 <= a0 ∧ a0 <= a0 ∧ 8 * a0 <= 281474976710656 ∧ a0 <= 9223372036854775807 then
  (jL a0 a1 a2 0 (List.replicate a0.toNat (0:Int))).bind fun (r11:(List Int)) =>
  (mX a0 a1 r11 a2).bind fun (r55:(List Int)) =>
  some r55
 else none
def fM (a0:Int) (a1:aC):Option (Int) :=
 some (IntKind.wrap .i64 (a0 + a1.cost))
def nR (a0:Int):Option (Bool) :=
 some (a0 != a0)
def qA (a0 a1:Int):Option (Bool) :=
 (nR a0).bind fun (r1:Bool) =>
 if r1 = true then
  (nR a1).bind fun (r2:Bool) =>
  if (!(r2)) = true then
   some true
  else
   some (decide (a0 < a1))
 else
  some (decide (a0 < a1))
def cE (r1:(List aC)) (p6:Bool) (p7:Int) (p8 p9:List Int):Option ((Bool × Int × (List Int) × (List Int)) ⊕ (Bool × (List Int) × (List Int))) :=
 if decide (p7 < (r1.length:Int)) = true then
  if 0 <= p7 ∧ p7.toNat < r1.length then
   (r1[p7.toNat]?).bind fun (x10:aC) =>
   if 0 <= x10.from_ ∧ x10.from_.toNat < p8.length then
    (p8[x10.from_.toNat]?).bind fun (x11:Int) =>
    (fM x11 x10).bind fun (r12:Int) =>
    if 0 <= x10.to ∧ x10.to.toNat < p8.length then
     (p8[x10.to.toNat]?).bind fun (x13:Int) =>
     (qA r12 x13).bind fun (r14:Bool) =>
     if r14 = true then
      if 0 <= x10.to ∧ x10.to.toNat < p8.length then
       (p8[x10.to.toNat]?).bind fun (x15:Int) =>
       if 0 <= x10.to ∧ x10.to.toNat < p9.length then
        (p9[x10.to.toNat]?).bind fun (x16:Int) =>
        some (.inl (true,IntKind.wrap .i64 (p7 + 1),p8.set x10.to.toNat r12,p9.set x10.to.toNat p7))
       else none
      else none
     else
      some (.inl (p6,IntKind.wrap .i64 (p7 + 1),p8,p9))
    else none
   else none
  else none
 else
  some (.inr ((p6,p8,p9)))
def gW (r1:(List aC)) (p6:Bool) (p7:Int) (p8 p9:List Int):Option (Bool × (List Int) × (List Int)) :=
 dO (fun (w:Bool × Int × (List Int) × (List Int))=>cE r1 w.1 w.2.1 w.2.2.1 w.2.2.2) (p6,p7,p8,p9)
def d8 (r1:(List aC)) (p3:Bool) (p4 p5:List Int):Option ((Bool × (List Int) × (List Int)) ⊕ ((List Int) × (List Int))) :=
 if p3 = true then
  (gW r1 false 0 p4 p5).bind fun (r20:Bool × (List Int) × (List Int)) =>
  some (.inl (r20.1,r20.2.1,r20.2.2))
 else
  some (.inr ((p4,p5)))
def gT (r1:(List aC)) (p3:Bool) (p4 p5:List Int):Option ((List Int) × (List Int)) :=
 dO (fun (w:Bool × (List Int) × (List Int))=>d8 r1 w.1 w.2.1 w.2.2) (p3,p4,p5)
def d7 (a0:Int) (a1:List aF) (a2:List Int):Option ((List Int)) :=
 if 0 <= a0 ∧ a0 <= a0 ∧ 8 * a0 <= 281474976710656 ∧ a0 <= 9223372036854775807 then
  (fJ a1 a2).bind fun (r1:(List aC)) =>
  (fQ [(-1)] ((List.replicate a0.toNat (0:Int)).length:Int)).bind fun (r2:(List Int)) =>
  (gT r1 true (List.replicate a0.toNat (0:Int)) r2).bind fun (r23:(List Int) × (List Int)) =>
  some r23.1
 else none
def cX (a0:Int) (a1:List aF) (a3:List Int) (a4:Int) (p5:List Int) (r8:(List aC)) (p9:Int) (p10:List aC):Option ((Int × (List aC)) ⊕ ((List aC))) :=
 if decide (p9 < (r8.length:Int)) = true then
  if 0 <= p9 ∧ p9.toNat < r8.length then
   (r8[p9.toNat]?).bind fun (x11:aC) =>
   if decide (x11.due > a4) = true then
    (at? a3 x11.to).bind fun (x12:Int) =>
    (at? a3 x11.from_).bind fun (x13:Int) =>
    if (x12 == (IntKind.wrap .i64 (x13 + x11.cost))) = true then
     if (p10.length + 1) * 48 <= 140737488355328 then
      some (.inl (IntKind.wrap .i64 (p9 + 1),p10 ++ [x11]))
     else none
    else
     some (.inl (IntKind.wrap .i64 (p9 + 1),p10))
   else
    some (.inl (IntKind.wrap .i64 (p9 + 1),p10))
  else none
 else
  some (.inr (p10))
def lE (a0:Int) (a1:List aF) (a3:List Int) (a4:Int) (p5:List Int) (r8:(List aC)) (p9:Int) (p10:List aC):Option ((List aC)) :=
 dO (fun (w:Int × (List aC))=>cX a0 a1 a3 a4 p5 r8 w.1 w.2) (p9,p10)
def cR (a0:Int) (a1:List aF) (a3:List Int) (a4:Int) (p5:List Int) (r15:(List aC)) (x16:aF) (p18:Int) (p19:List aC):Option ((Int × (List aC)) ⊕ ((List aC))) :=
 if decide (p18 < (r15.length:Int)) = true then
  if 0 <= p18 ∧ p18.toNat < p19.length then
   (p19[p18.toNat]?).bind fun (x20:aC) =>
   some (.inl (IntKind.wrap .i64 (p18 + 1),p19.set p18.toNat (aC.mk x20.due x20.from_ x20.to 0 x20.most x20.back)))
  else none
 else
  some (.inr (p19))
def lF (a0:Int) (a1:List aF) (a3:List Int) (a4:Int) (p5:List Int) (r15:(List aC)) (x16:aF) (p18:Int) (p19:List aC):Option ((List aC)) :=
 dO (fun (w:Int × (List aC))=>cR a0 a1 a3 a4 p5 r15 x16 w.1 w.2) (p18,p19)
def dW (a0:Int) (a1:List aF) (a3:List Int) (a4:Int) (p5:List Int) (r22:(List aC)) (r23:(List aD) × (List Int)) (p29 p30:Int):Option ((Int × Int) ⊕ (Int)) :=
 if 0 <= p30 ∧ p30.toNat < r23.2.length then
  (r23.2[p30.toNat]?).bind fun (x31:Int) =>
  if decide (x31 ≥ 0) = true then
   if 0 <= p30 ∧ p30.toNat < r23.2.length then
    (r23.2[p30.toNat]?).bind fun (x32:Int) =>
    if 0 <= x32 ∧ x32.toNat < r22.length then
     (r22[x32.toNat]?).bind fun (x33:aC) =>
     if 0 <= p30 ∧ p30.toNat < r23.2.length then
      (r23.2[p30.toNat]?).bind fun (x34:Int) =>
      if 0 <= x34 ∧ x34.toNat < r22.length then
       (r22[x34.toNat]?).bind fun (x35:aC) =>
       some (.inl ((if x33.most < p29 then x33.most else p29),x35.from_))
      else none
     else none
    else none
   else none
  else
   some (.inr (p29))
 else none
def gS (a0:Int) (a1:List aF) (a3:List Int) (a4:Int) (p5:List Int) (r22:(List aC)) (r23:(List aD) × (List Int)) (p29 p30:Int):Option (Int) :=
 dO (fun (w:Int × Int)=>dW a0 a1 a3 a4 p5 r22 r23 w.1 w.2) (p29,p30)
def dZ (a0:Int) (a1:List aF) (a3:List Int) (a4:Int) (r22:(List aC)) (r23:(List aD) × (List Int)) (r37 p39:Int) (p40:List Int):Option ((Int × (List Int)) ⊕ ((List Int))) :=
 if 0 <= p39 ∧ p39.toNat < r23.2.length then
  (r23.2[p39.toNat]?).bind fun (x41:Int) =>
  if decide (x41 ≥ 0) = true then
   if 0 <= p39 ∧ p39.toNat < r23.2.length then
    (r23.2[p39.toNat]?).bind fun (x42:Int) =>
    if 0 <= x42 ∧ x42.toNat < r22.length then
     (r22[x42.toNat]?).bind fun (x43:aC) =>
     (dY x43 p40 r37).bind fun (r44:(List Int)) =>
     if 0 <= p39 ∧ p39.toNat < r23.2.length then
      (r23.2[p39.toNat]?).bind fun (x45:Int) =>
      if 0 <= x45 ∧ x45.toNat < r22.length then
       (r22[x45.toNat]?).bind fun (x46:aC) =>
       some (.inl (x46.from_,r44))
      else none
     else none
    else none
   else none
  else
   some (.inr (p40))
 else none
def gP (a0:Int) (a1:List aF) (a3:List Int) (a4:Int) (r22:(List aC)) (r23:(List aD) × (List Int)) (r37 p39:Int) (p40:List Int):Option ((List Int)) :=
 dO (fun (w:Int × (List Int))=>dZ a0 a1 a3 a4 r22 r23 r37 w.1 w.2) (p39,p40)
def b9 (a0:Int) (a1:List aF) (a3:List Int) (a4:Int) (p5:List Int):Option (((List Int)) ⊕ (((List Int)) ⊕ ((List Int)))) :=
 if 0 <= a4 ∧ a4.toNat < p5.length then
  (p5[a4.toNat]?).bind fun (x6:Int) =>
  (at? a1 a4).bind fun (x7:aF) =>
  if decide (x6 < x7.Sum) = true then
   (fJ a1 p5).bind fun (r8:(List aC)) =>
   (lE a0 a1 a3 a4 p5 r8 0 []).bind fun (r15:(List aC)) =>
   if 0 <= a0 ∧ a0 <= a0 ∧ 8 * a0 <= 281474976710656 ∧ a0 <= 9223372036854775807 then
    (at? a1 a4).bind fun (x16:aF) =>
    if 0 <= x16.To ∧ x16.To.toNat < (List.replicate a0.toNat (0:Int)).length then
     ((List.replicate a0.toNat (0:Int))[x16.To.toNat]?).bind fun (x17:Int) =>
     (lF a0 a1 a3 a4 p5 r15 x16 0 r15).bind fun (r22:(List aC)) =>
     (fH a0 r22 ((List.replicate a0.toNat (0:Int)).set x16.To.toNat 1)).bind fun (r23:(List aD) × (List Int)) =>
     (at? a1 a4).bind fun (x24:aF) =>
     if 0 <= x24.From ∧ x24.From.toNat < r23.1.length then
      (r23.1[x24.From.toNat]?).bind fun (x25:aD) =>
      if (!(x25.fine)) = true then
       some (.inr (.inr (p5)))
      else
       (at? a1 a4).bind fun (x26:aF) =>
       if 0 <= a4 ∧ a4.toNat < p5.length then
        (p5[a4.toNat]?).bind fun (x27:Int) =>
        (at? a1 a4).bind fun (x28:aF) =>
        (gS a0 a1 a3 a4 p5 r22 r23 (IntKind.wrap .i64 (x26.Sum - x27)) x28.From).bind fun (r37:Int) =>
        (at? a1 a4).bind fun (x38:aF) =>
        (gP a0 a1 a3 a4 r22 r23 r37 x38.From p5).bind fun (r48:(List Int)) =>
        if 0 <= a4 ∧ a4.toNat < r48.length then
         (r48[a4.toNat]?).bind fun (x49:Int) =>
         if 0 <= a4 ∧ a4.toNat < r48.length then
          (r48[a4.toNat]?).bind fun (x50:Int) =>
          some (.inl (r48.set a4.toNat (IntKind.wrap .i64 (x49 + r37))))
         else none
        else none
       else none
     else none
    else none
   else none
  else
   some (.inr (.inl p5))
 else none
def pI (a0:Int) (a1:List aF) (a3:List Int) (a4:Int) (p5:List Int):Option (((List Int)) ⊕ ((List Int))) :=
 dO (fun (w:(List Int))=>b9 a0 a1 a3 a4 w) p5
def l9 (a0:Int) (a1:List aF) (a2 a3:List Int) (a4:Int):Option ((List Int)) :=
 (at? a1 a4).bind fun (x1:aF) =>
 (at? a3 x1.To).bind fun (x2:Int) =>
 (at? a1 a4).bind fun (x3:aF) =>
 (at? a3 x3.From).bind fun (x4:Int) =>
 if (x2 != (IntKind.wrap .i64 (x4 - 1))) = true then
  some a2
 else
  (pI a0 a1 a3 a4 a2).bind fun (r53:((List Int)) ⊕ ((List Int)))=>Sum.elim (fun z54 =>
  some z54) (fun z55 =>
  some z55) r53
def cU (a0:Int) (a1:List aF) (p2:Int) (p3:List Int):Option ((Int × (List Int)) ⊕ ((List Int))) :=
 if decide (p2 < (a1.length:Int)) = true then
  (at? a1 p2).bind fun (x4:aF) =>
  if 0 <= p2 ∧ p2.toNat < p3.length then
   (p3[p2.toNat]?).bind fun (x5:Int) =>
   some (.inl (IntKind.wrap .i64 (p2 + 1),p3.set p2.toNat x4.Sum))
  else none
 else
  some (.inr (p3))
def kW (a0:Int) (a1:List aF) (p2:Int) (p3:List Int):Option ((List Int)) :=
 dO (fun (w:Int × (List Int))=>cU a0 a1 w.1 w.2) (p2,p3)
def dE (a0:Int) (a1:List aF) (r9:(List Int)) (p10:Int) (p11:List Int):Option ((Int × (List Int)) ⊕ ((List Int))) :=
 if decide (p10 < (a1.length:Int)) = true then
  (l9 a0 a1 p11 r9 p10).bind fun (r12:(List Int)) =>
  some (.inl (IntKind.wrap .i64 (p10 + 1),r12))
 else
  some (.inr (p11))
def kY (a0:Int) (a1:List aF) (r9:(List Int)) (p10:Int) (p11:List Int):Option ((List Int)) :=
 dO (fun (w:Int × (List Int))=>dE a0 a1 r9 w.1 w.2) (p10,p11)
def iT (a0:Int) (a1:List aF):Option ((List Int) × (List Int) × Int) :=
 (iR a0 a1).bind fun (r1:Bool) =>
 if (!(r1)) = true then
  some ([],[],1)
 else
  if 0 <= (a1.length:Int) ∧ (a1.length:Int) <= (a1.length:Int) ∧ 8 * (a1.length:Int) <= 281474976710656 ∧ (a1.length:Int) <= 9223372036854775807 then
   (kW a0 a1 0 (List.replicate ((a1.length:Int).toNat) (0:Int))).bind fun (r7:(List Int)) =>
   (jW a0 a1 r7).bind fun (r8:(List Int)) =>
   (d7 a0 a1 r8).bind fun (r9:(List Int)) =>
   (kY a0 a1 r9 0 r8).bind fun (r14:(List Int)) =>
   (d7 a0 a1 r14).bind fun (r15:(List Int)) =>
   some (r14,r15,0)
  else none
def dV (a0:Int) (a1:List aE) (a2:List Int) (p1:Int) (p2:List aF) (p3:List Int):Option ((Int × (List aF) × (List Int)) ⊕ ((List aF) × (List Int))) :=
 if decide (p1 < (a1.length:Int)) = true then
  (at? a1 p1).bind fun (x4:aE) =>
  (oF x4 a2).bind fun (r5:Bool) =>
  if r5 = true then
   (uJ x4).bind fun (r6:aF) =>
   if (p2.length + 1) * 24 <= 140737488355328 then
    if (p3.length + 1) * 8 <= 140737488355328 then
     some (.inl (IntKind.wrap .i64 (p1 + 1),p2 ++ [r6],p3 ++ [p1]))
    else none
   else none
  else
   some (.inl (IntKind.wrap .i64 (p1 + 1),p2,p3))
 else
  some (.inr ((p2,p3)))
def pY (a0:Int) (a1:List aE) (a2:List Int) (p1:Int) (p2:List aF) (p3:List Int):Option ((List aF) × (List Int)) :=
 dO (fun (w:Int × (List aF) × (List Int))=>dV a0 a1 a2 w.1 w.2.1 w.2.2) (p1,p2,p3)
def eQ (r10:(List Int) × (List Int) × Int) (r9:(List aF) × (List Int)) (p11:Int) (p12:List Int):Option ((Int × (List Int)) ⊕ ((List Int))) :=
 if decide (p11 < (r10.1.length:Int)) = true then
  (at? r10.1 p11).bind fun (x13:Int) =>
  if 0 <= p11 ∧ p11.toNat < r9.2.length then
   (r9.2[p11.toNat]?).bind fun (x14:Int) =>
   if 0 <= x14 ∧ x14.toNat < p12.length then
    (p12[x14.toNat]?).bind fun (x15:Int) =>
    some (.inl (IntKind.wrap .i64 (p11 + 1),p12.set x14.toNat x13))
   else none
  else none
 else
  some (.inr (p12))
def pT (r10:(List Int) × (List Int) × Int) (r9:(List aF) × (List Int)) (p11:Int) (p12:List Int):Option ((List Int)) :=
 dO (fun (w:Int × (List Int))=>eQ r10 r9 w.1 w.2) (p11,p12)
def mK (a0:Int) (a1:List aE) (a2:List Int):Option ((List Int) × (List Int)) :=
 (pY a0 a1 a2 0 [] []).bind fun (r9:(List aF) × (List Int)) =>
 (iT a0 r9.1).bind fun (r10:(List Int) × (List Int) × Int) =>
 if 0 <= (a1.length:Int) ∧ (a1.length:Int) <= (a1.length:Int) ∧ 8 * (a1.length:Int) <= 281474976710656 ∧ (a1.length:Int) <= 9223372036854775807 then
  (pT r10 r9 0 (List.replicate ((a1.length:Int).toNat) (0:Int))).bind fun (r17:(List Int)) =>
  some (r17,r10.2.1)
 else none
def dK (a0:Int) (a1:List aE) (a2:List Int):Option ((List Int) × (List Int) × Int) :=
 (iD a0 a1).bind fun (r1:Int) =>
 if (r1 != 0) = true then
  some ([],[],1)
 else
  (m9 a2).bind fun (r2:Bool) =>
  if (!(r2)) = true then
   some ([],[],1)
  else
   (mK a0 a1 a2).bind fun (r3:(List Int) × (List Int)) =>
   some (r3.1,r3.2,0)
def dP (a0:List aE) (p1:Int) (x3:aE) (p4:Int) (p5:List Int):Option ((Int × (List Int)) ⊕ ((List Int))) :=
 if decide (p4 < (x3.Rights.length:Int)) = true then
  (at? x3.Rights p4).bind fun (x6:aJ) =>
  if (p5.length + 1) * 8 <= 140737488355328 then
   some (.inl (IntKind.wrap .i64 (p4 + 1),p5 ++ [x6.Owner]))
  else none
 else
  some (.inr (p5))
def mE (a0:List aE) (p1:Int) (x3:aE) (p4:Int) (p5:List Int):Option ((List Int)) :=
 dO (fun (w:Int × (List Int))=>dP a0 p1 x3 w.1 w.2) (p4,p5)
def dS (a0:List aE) (p1:Int) (p2:List Int):Option ((Int × (List Int)) ⊕ ((List Int))) :=
 if decide (p1 < (a0.length:Int)) = true then
  (at? a0 p1).bind fun (x3:aE) =>
  (mE a0 p1 x3 0 p2).bind fun (r8:(List Int)) =>
  some (.inl (IntKind.wrap .i64 (p1 + 1),r8))
 else
  some (.inr (p2))
def mT (a0:List aE) (p1:Int) (p2:List Int):Option ((List Int)) :=
 dO (fun (w:Int × (List Int))=>dS a0 w.1 w.2) (p1,p2)
def gD (a0:List aE):Option ((List Int)) :=
 (mT a0 0 []).bind fun (r10:(List Int)) =>
 if r10.length < 4611686018427387904 then
  some (E4 (yS r10))
 else none
def lC (a0:Int) (a1:List Int):Option (Bool) :=
 (cP a1 a0).bind fun (r1:Bool) =>
 some r1
def dN (a0 a1:List Int) (p1:Int):Option ((Int) ⊕ (Unit ⊕ Int)) :=
 if decide (p1 < (a0.length:Int)) = true then
  (at? a0 p1).bind fun (x2:Int) =>
  (lC x2 a1).bind fun (r3:Bool) =>
  if r3 = true then
   some (.inr (.inr (p1)))
  else
   some (.inl (IntKind.wrap .i64 (p1 + 1)))
 else
  some (.inr (.inl ()))
def gL (a0 a1:List Int) (p1:Int):Option (Unit ⊕ Int) :=
 dO (fun (w:Int)=>dN a0 a1 w) p1
def e9 (a0 a1:List Int):Option (Int) :=
 (gL a0 a1 0).bind fun (r5:Unit ⊕ Int)=>Sum.elim (fun z6 =>
 some (-1)) (fun z7 =>
 some z7) r5
def cA (a0:List Int) (p1 p2:Int):Option ((Int × Int) ⊕ (Int ⊕ Unit)) :=
 if decide (p2 < (a0.length:Int)) = true then
  (at? a0 p2).bind fun (x3:Int) =>
  if decide (x3 < 0) = true then
   some (.inr (.inr (())))
  else
   if decide (x3 > 1099511627776) = true then
    some (.inr (.inr (())))
   else
    some (.inl (IntKind.wrap .i64 (p1 + x3),IntKind.wrap .i64 (p2 + 1)))
 else
  some (.inr (.inl p1))
def oL (a0:List Int) (p1 p2:Int):Option (Int ⊕ Unit) :=
 dO (fun (w:Int × Int)=>cA a0 w.1 w.2) (p1,p2)
def c9 (a0:List Int):Option (Int) :=
 if decide ((a0.length:Int) > 100) = true then
  some 0
 else
  (oL a0 0 0).bind fun (r5:Int ⊕ Unit)=>Sum.elim (fun z6 =>
  some z6) (fun z7 =>
  some 0) r5
def gA (a0:List Int):Option ((List Int)):=if a0.length * 8 <= 140737488355328 then some a0 else none
def nN (a0:Int) (a1:List Int):Option (Bool) :=
 (cP a1 a0).bind fun (r1:Bool) =>
 some (!(r1))
def dR (a0 a1:List Int) (p1:Int):Option ((Int) ⊕ (Unit ⊕ Int)) :=
 if decide (p1 < (a0.length:Int)) = true then
  (at? a0 p1).bind fun (x2:Int) =>
  (nN x2 a1).bind fun (r3:Bool) =>
  if r3 = true then
   some (.inr (.inr (p1)))
  else
   some (.inl (IntKind.wrap .i64 (p1 + 1)))
 else
  some (.inr (.inl ()))
def gJ (a0 a1:List Int) (p1:Int):Option (Unit ⊕ Int) :=
 dO (fun (w:Int)=>dR a0 a1 w) p1
def fC (a0 a1:List Int):Option (Int) :=
 (gJ a0 a1 0).bind fun (r5:Unit ⊕ Int)=>Sum.elim (fun z6 =>
 some (-1)) (fun z7 =>
 some z7) r5
def eE (a0 a1:List Int):Option (Bool) :=
 (fC a0 a1).bind fun (r1:Int) =>
 some (decide (r1 ≥ 0))
def vJ (a0 a1:List Int):Option (Bool) :=
 (eE a0 a1).bind fun (r1:Bool) =>
 some (!(r1))
def pJ (a0 a1:List Int):Option (Bool) :=
 (vJ a0 a1).bind fun (r1:Bool) =>
 some r1
def dQ (a0:List (List Int)) (a1:List Int) (p1:Int):Option ((Int) ⊕ (Unit ⊕ Int)) :=
 if decide (p1 < (a0.length:Int)) = true then
  (at? a0 p1).bind fun (x2:List Int) =>
  (pJ x2 a1).bind fun (r3:Bool) =>
  if r3 = true then
   some (.inr (.inr (p1)))
  else
   some (.inl (IntKind.wrap .i64 (p1 + 1)))
 else
  some (.inr (.inl ()))
def gO (a0:List (List Int)) (a1:List Int) (p1:Int):Option (Unit ⊕ Int) :=
 dO (fun (w:Int)=>dQ a0 a1 w) p1
def fB (a0:List (List Int)) (a1:List Int):Option (Int) :=
 (gO a0 a1 0).bind fun (r5:Unit ⊕ Int)=>Sum.elim (fun z6 =>
 some (-1)) (fun z7 =>
 some z7) r5
def d9 (a0:List (List Int)) (a1:List Int):Option (Bool) :=
 (fB a0 a1).bind fun (r1:Int) =>
 some (decide (r1 ≥ 0))
def oY (a0:Int) (a1:List aE) (a2:List Int) (p5 p6:Int) (p7:List Int):Option ((Int × Int × (List Int)) ⊕ (Int × (List Int))) :=
 if decide (p6 < (p7.length:Int)) = true then
  if 0 <= p6 ∧ p6.toNat < p7.length then
   (p7[p6.toNat]?).bind fun (x8:Int) =>
   (lC x8 a2).bind fun (r9:Bool) =>
   if (!(r9)) = true then
    if 0 <= p5 ∧ p5.toNat < p7.length then
     (p7[p5.toNat]?).bind fun (x10:Int) =>
     some (.inl (IntKind.wrap .i64 (p5 + 1),IntKind.wrap .i64 (p6 + 1),p7.set p5.toNat x8))
    else none
   else
    some (.inl (p5,IntKind.wrap .i64 (p6 + 1),p7))
  else none
 else
  some (.inr ((p5,p7)))
def wW (a0:Int) (a1:List aE) (a2:List Int) (p5 p6:Int) (p7:List Int):Option (Int × (List Int)) :=
 dO (fun (w:Int × Int × (List Int))=>oY a0 a1 a2 w.1 w.2.1 w.2.2) (p5,p6,p7)
def pK (a0:Int) (a1:List aE) (a2 p14:List Int) (p17:List (List Int)) (p18:Int) (p19:List (List Int)) (p20 r16:Int) (x22:List Int) (p25:Int) (p26:List (List Int)):Option ((Int × (List (List Int))) ⊕ ((List (List Int)))) :=
 if decide (p25 < (p14.length:Int)) = true then
  (gA x22).bind fun (r27:(List Int)) =>
  if (r27.length + 1) * 8 <= 140737488355328 then
   if (p26.length + 1) * 24 <= 140737488355328 then
    some (.inl (IntKind.wrap .i64 (p25 + 1),p26 ++ [r27 ++ [p25]]))
   else none
  else none
 else
  some (.inr (p26))
def wN (a0:Int) (a1:List aE) (a2 p14:List Int) (p17:List (List Int)) (p18:Int) (p19:List (List Int)) (p20 r16:Int) (x22:List Int) (p25:Int) (p26:List (List Int)):Option ((List (List Int))) :=
 dO (fun (w:Int × (List (List Int)))=>pK a0 a1 a2 p14 p17 p18 p19 p20 r16 x22 w.1 w.2) (p25,p26)
def rG (a0:Int) (a1:List aE) (a2 p14:List Int) (p17:List (List Int)) (p18:Int) (p19:List (List Int)) (p20:Int) (p21:List (List Int)) (r16:Int) (x22:List Int) (p24:Int):Option ((List (List Int))) :=
 (wN a0 a1 a2 p14 p17 p18 p19 p20 r16 x22 p24 p21).bind fun (r29:(List (List Int))) =>
 some (r29)
def oT (a0:Int) (a1:List aE) (a2 p14:List Int) (p17:List (List Int)) (p18:Int) (p19:List (List Int)) (r16 p20:Int) (p21:List (List Int)):Option ((Int × (List (List Int))) ⊕ ((List (List Int)))) :=
 if decide (p20 < (p17.length:Int)) = true then
  (at? p17 p20).bind fun (x22:List Int) =>
  if decide ((x22.length:Int) > 0) = true then
   (at? x22 (IntKind.wrap .i64 ((x22.length:Int) - 1))).bind fun (x23:Int) =>
   (rG a0 a1 a2 p14 p17 p18 p19 p20 p21 r16 x22 (IntKind.wrap .i64 (x23 + 1))).bind fun (r31:(List (List Int))) =>
   some (.inl (IntKind.wrap .i64 (p20 + 1),r31))
  else
   (rG a0 a1 a2 p14 p17 p18 p19 p20 p21 r16 x22 0).bind fun (r32:(List (List Int))) =>
   some (.inl (IntKind.wrap .i64 (p20 + 1),r32))
 else
  some (.inr (p21))
def wX (a0:Int) (a1:List aE) (a2 p14:List Int) (p17:List (List Int)) (p18:Int) (p19:List (List Int)) (r16 p20:Int) (p21:List (List Int)):Option ((List (List Int))) :=
 dO (fun (w:Int × (List (List Int)))=>oT a0 a1 a2 p14 p17 p18 p19 r16 w.1 w.2) (p20,p21)
def oG (a0:Int) (a1:List aE) (a2 p14:List Int) (p18 p35:Int) (p36:List (List Int)) (r16:Int) (r34:(List (List Int))) (x37:List Int) (p38:Int) (p39:List Int):Option ((Int × (List Int)) ⊕ ((List Int))) :=
 if decide (p38 < (x37.length:Int)) = true then
  (at? x37 p38).bind fun (x40:Int) =>
  if 0 <= x40 ∧ x40.toNat < p14.length then
   (p14[x40.toNat]?).bind fun (x41:Int) =>
   if (p39.length + 1) * 8 <= 140737488355328 then
    some (.inl (IntKind.wrap .i64 (p38 + 1),p39 ++ [x41]))
   else none
  else none
 else
  some (.inr (p39))
def wH (a0:Int) (a1:List aE) (a2 p14:List Int) (p18 p35:Int) (p36:List (List Int)) (r16:Int) (r34:(List (List Int))) (x37:List Int) (p38:Int) (p39:List Int):Option ((List Int)) :=
 dO (fun (w:Int × (List Int))=>oG a0 a1 a2 p14 p18 p35 p36 r16 r34 x37 w.1 w.2) (p38,p39)
def oD (a0:Int) (a1:List aE) (a2 p14:List Int) (p18 r16:Int) (r34:(List (List Int))) (p35:Int) (p36:List (List Int)):Option ((Int × (List (List Int))) ⊕ ((List (List Int)))) :=
 if decide (p35 < (r34.length:Int)) = true then
  if 0 <= p35 ∧ p35.toNat < r34.length then
   (r34[p35.toNat]?).bind fun (x37:List Int) =>
   (wH a0 a1 a2 p14 p18 p35 p36 r16 r34 x37 0 []).bind fun (r43:(List Int)) =>
   (d9 p36 r43).bind fun (r44:Bool) =>
   if r44 = true then
    some (.inl (IntKind.wrap .i64 (p35 + 1),p36))
   else
    (gA a2).bind fun (r45:(List Int)) =>
    if (r45.length + r43.length) * 8 <= 140737488355328 then
     (mK a0 a1 (r45 ++ r43)).bind fun (r46:(List Int) × (List Int)) =>
     (c9 r46.1).bind fun (r47:Int) =>
     if decide (r47 > r16) = true then
      if (p36.length + 1) * 24 <= 140737488355328 then
       some (.inl (IntKind.wrap .i64 (p35 + 1),p36 ++ [r43]))
      else none
     else
      some (.inl (IntKind.wrap .i64 (p35 + 1),p36))
    else none
  else none
 else
  some (.inr (p36))
def wO (a0:Int) (a1:List aE) (a2 p14:List Int) (p18 r16:Int) (r34:(List (List Int))) (p35:Int) (p36:List (List Int)):Option ((List (List Int))) :=
 dO (fun (w:Int × (List (List Int)))=>oD a0 a1 a2 p14 p18 r16 r34 w.1 w.2) (p35,p36)
def oE (a0:Int) (a1:List aE) (a2 p14:List Int) (r16:Int) (p17:List (List Int)) (p18:Int) (p19:List (List Int)):Option (((List (List Int)) × Int × (List (List Int))) ⊕ ((List (List Int)))) :=
 if decide (p18 < (p14.length:Int)) = true then
  (wX a0 a1 a2 p14 p17 p18 p19 r16 0 []).bind fun (r34:(List (List Int))) =>
  (wO a0 a1 a2 p14 p18 r16 r34 0 p19).bind fun (r49:(List (List Int))) =>
  some (.inl (r34,IntKind.wrap .i64 (p18 + 1),r49))
 else
  some (.inr (p19))
def wU (a0:Int) (a1:List aE) (a2 p14:List Int) (r16:Int) (p17:List (List Int)) (p18:Int) (p19:List (List Int)):Option ((List (List Int))) :=
 dO (fun (w:(List (List Int)) × Int × (List (List Int)))=>oE a0 a1 a2 p14 r16 w.1 w.2.1 w.2.2) (p17,p18,p19)
def rJ (a0:Int) (a1:List aE) (a2 p14:List Int):Option (Int × (List (List Int))) :=
 if decide ((p14.length:Int) > 8) = true then
  some ((6,[]))
 else
  (mK a0 a1 a2).bind fun (r15:(List Int) × (List Int)) =>
  (c9 r15.1).bind fun (r16:Int) =>
  (wU a0 a1 a2 p14 r16 [[]] 0 []).bind fun (r51:(List (List Int))) =>
  some ((0,r51))
def m7 (a0:Int) (a1:List aE) (a2:List Int):Option ((List (List Int)) × Int) :=
 (iD a0 a1).bind fun (r1:Int) =>
 if (r1 != 0) = true then
  some ([],1)
 else
  (m9 a2).bind fun (r2:Bool) =>
  if (!(r2)) = true then
   some ([],1)
  else
   (gD a1).bind fun (r3:(List Int)) =>
   (e9 r3 a2).bind fun (r4:Int) =>
   if (r4 == (-1)) = true then
    (rJ a0 a1 a2 r3).bind fun (r54:Int × (List (List Int))) =>
    some (r54.2,r54.1)
   else
    (wW a0 a1 a2 r4 (IntKind.wrap .i64 (r4 + 1)) r3).bind fun (r13:Int × (List Int)) =>
    if 0 <= r13.1 ∧ r13.1.toNat <= r13.2.length then
     if 0 <= r13.1 ∧ r13.1.toNat <= (zW r13.1.toNat r13.2).length then
      (rJ a0 a1 a2 ((zW r13.1.toNat r13.2).take r13.1.toNat)).bind fun (r55:Int × (List (List Int))) =>
      some (r55.2,r55.1)
     else none
    else none
def lJ (a0:List aE) (a1:List Int) (a2 a3 p1:Int) (p2:List Int) (p3:List a8):Option ((Int × (List Int) × (List a8)) ⊕ ((List Int) × (List a8))) :=
 if decide (p1 < (a0.length:Int)) = true then
  (at? a0 p1).bind fun (x4:aE) =>
  (at? a1 p1).bind fun (x5:Int) =>
  if decide (x5 > 0) = true then
   if (p2.length + 1) * 8 <= 140737488355328 then
    (at? a1 p1).bind fun (x6:Int) =>
    if (p3.length + 1) * 72 <= 140737488355328 then
     some (.inl (IntKind.wrap .i64 (p1 + 1),p2 ++ [x4.File],p3 ++ [(a8.mk 6 x4.From x4.To x4.Part x4.Sign x6 a2 a3 0)]))
    else none
   else none
  else
   some (.inl (IntKind.wrap .i64 (p1 + 1),p2,p3))
 else
  some (.inr ((p2,p3)))
def sO (a0:List aE) (a1:List Int) (a2 a3 p1:Int) (p2:List Int) (p3:List a8):Option ((List Int) × (List a8)) :=
 dO (fun (w:Int × (List Int) × (List a8))=>lJ a0 a1 a2 a3 w.1 w.2.1 w.2.2) (p1,p2,p3)
def rN (a0:List aE) (a1:List Int) (a2 a3:Int):Option ((List Int) × (List a8)) :=
 if ((a1.length:Int) != (a0.length:Int)) = true then
  some ([],[])
 else
  (sO a0 a1 a2 a3 0 [] []).bind fun (r9:(List Int) × (List a8)) =>
  some (r9.1,r9.2)
def jQ (a0 a1:List Int) (p1:Int):Option ((Int) ⊕ (Unit ⊕ Unit)) :=
 if decide (p1 < (a0.length:Int)) = true then
  (at? a0 p1).bind fun (x2:Int) =>
  (at? a1 p1).bind fun (x3:Int) =>
  if (x2 != x3) = true then
   some (.inr (.inr (())))
  else
   some (.inl (IntKind.wrap .i64 (p1 + 1)))
 else
  some (.inr (.inl ()))
def qE (a0 a1:List Int) (p1:Int):Option (Unit ⊕ Unit) :=
 dO (fun (w:Int)=>jQ a0 a1 w) p1
def gQ (a0 a1:List Int):Option (Bool) :=
 if ((a0.length:Int) != (a1.length:Int)) = true then
  some false
 else
  (qE a0 a1 0).bind fun (r4:Unit ⊕ Unit)=>Sum.elim (fun z5 =>
  some true) (fun z6 =>
  some false) r4
def i7 (a0 a1:List Int) (p1:Int):Option ((Int) ⊕ (Unit ⊕ Bool)) :=
 if decide (p1 < (a0.length:Int)) = true then
  (at? a0 p1).bind fun (x2:Int) =>
  (at? a1 p1).bind fun (x3:Int) =>
  if (x2 != x3) = true then
   (at? a0 p1).bind fun (x4:Int) =>
   (at? a1 p1).bind fun (x5:Int) =>
   some (.inr (.inr (decide (x4 < x5))))
  else
   some (.inl (IntKind.wrap .i64 (p1 + 1)))
 else
  some (.inr (.inl ()))
def nW (a0 a1:List Int) (p1:Int):Option (Unit ⊕ Bool) :=
 dO (fun (w:Int)=>i7 a0 a1 w) p1
def jN (a0 a1:List Int):Option (Bool) :=
 if ((a0.length:Int) != (a1.length:Int)) = true then
  some (decide ((a0.length:Int) < (a1.length:Int)))
 else
  (nW a0 a1 0).bind fun (r7:Unit ⊕ Bool)=>Sum.elim (fun z8 =>
  some false) (fun z9 =>
  some z9) r7
def gF (a0 a1:List (List Int)) (p1:Int):Option ((Int) ⊕ (Unit ⊕ Unit)) :=
 if decide (p1 < (a0.length:Int)) = true then
  (at? a0 p1).bind fun (x2:List Int) =>
  (at? a1 p1).bind fun (x3:List Int) =>
  (jN x2 x3).bind fun (r4:Bool) =>
  if r4 = true then
   some (.inr (.inr (())))
  else
   (at? a1 p1).bind fun (x5:List Int) =>
   (at? a0 p1).bind fun (x6:List Int) =>
   (jN x5 x6).bind fun (r7:Bool) =>
   if r7 = true then
    some (.inr (.inr (())))
   else
    some (.inl (IntKind.wrap .i64 (p1 + 1)))
 else
  some (.inr (.inl ()))
def lG (a0 a1:List (List Int)) (p1:Int):Option (Unit ⊕ Unit) :=
 dO (fun (w:Int)=>gF a0 a1 w) p1
def gX (a0 a1:List (List Int)):Option (Bool) :=
 if ((a0.length:Int) != (a1.length:Int)) = true then
  some false
 else
  (lG a0 a1 0).bind fun (r8:Unit ⊕ Unit)=>Sum.elim (fun z9 =>
  some true) (fun z10 =>
  some false) r8
def oP (a0:List aE) (a1 a2:List Int) (p1:Int):Option ((Int) ⊕ (Unit ⊕ Unit)) :=
 if decide (p1 < (a0.length:Int)) = true then
  (at? a0 p1).bind fun (x2:aE) =>
  (at? a1 p1).bind fun (x3:Int) =>
  if (x3 != 0) = true then
   (oF x2 a2).bind fun (r4:Bool) =>
   if (!(r4)) = true then
    some (.inr (.inr (())))
   else
    some (.inl (IntKind.wrap .i64 (p1 + 1)))
  else
   some (.inl (IntKind.wrap .i64 (p1 + 1)))
 else
  some (.inr (.inl ()))
def wY (a0:List aE) (a1 a2:List Int) (p1:Int):Option (Unit ⊕ Unit) :=
 dO (fun (w:Int)=>oP a0 a1 a2 w) p1
def s8 (a0:List aE) (a1 a2:List Int):Option (Bool) :=
 if ((a1.length:Int) != (a0.length:Int)) = true then
  some false
 else
  (wY a0 a1 a2 0).bind fun (r5:Unit ⊕ Unit)=>Sum.elim (fun z6 =>
  some true) (fun z7 =>
  some false) r5
def iJ (p12:Bool) (r1:(List aE)) (r3:(List Int) × (List Int) × Int) (r8:(List Int) × (List a8)) (p15:Bool):Option (Bool) :=
 if p12 = true then
  if p15 = true then
   (at? r8.2 1).bind fun (x16:a8) =>
   if ((x16.Kind == 6) && ((x16.Who == 1) && ((x16.To == 0) && ((x16.Part == 0) && ((x16.At == 0) && ((x16.Sum == 2) && ((x16.Day == 9) && ((x16.City == 0) && (x16.Form == 0))))))))) = true then
    (gD r1).bind fun (r17:(List Int)) =>
    (gQ r17 [1,7]).bind fun (r18:Bool) =>
    if r18 = true then
     (s8 r1 r3.1 [1]).bind fun (r19:Bool) =>
     if r19 = true then
      (s8 r1 r3.1 [7]).bind fun (r20:Bool) =>
      if (!(r20)) = true then
       (iD 3 r1).bind fun (r21:Int) =>
       if (r21 == 0) = true then
        (iD 2 r1).bind fun (r22:Int) =>
        some (r22 == 1)
       else
        some (false)
      else
       some (false)
     else
      some (false)
    else
     some (false)
   else
    some (false)
  else
   some (false)
 else
  some (false)
def iP (r1:(List aE)) (r3:(List Int) × (List Int) × Int) (r5 r6 r7:(List (List Int)) × Int) (r8:(List Int) × (List a8)) (p12:Bool):Option (Bool) :=
 (gX r5.1 [[1],[7]]).bind fun (r13:Bool) =>
 if r13 = true then
  (gX r6.1 [[7]]).bind fun (r14:Bool) =>
  if r14 = true then
   (iJ p12 r1 r3 r8 ((r7.1.length:Int) == 0)).bind fun (r24:Bool) =>
   some (r24)
  else
   (iJ p12 r1 r3 r8 false).bind fun (r25:Bool) =>
   some (r25)
 else
  (iJ p12 r1 r3 r8 false).bind fun (r26:Bool) =>
  some (r26)
def fV:Option (Bool) :=
 (lK).bind fun (r1:(List aE)) =>
 (dK 3 r1 []).bind fun (r2:(List Int) × (List Int) × Int) =>
 (dK 3 r1 [1]).bind fun (r3:(List Int) × (List Int) × Int) =>
 (dK 3 r1 [1,7]).bind fun (r4:(List Int) × (List Int) × Int) =>
 (m7 3 r1 []).bind fun (r5:(List (List Int)) × Int) =>
 (m7 3 r1 [1]).bind fun (r6:(List (List Int)) × Int) =>
 (m7 3 r1 [1,7]).bind fun (r7:(List (List Int)) × Int) =>
 (rN r1 r3.1 9 0).bind fun (r8:(List Int) × (List a8)) =>
 if (r2.2.2 != 0) = true then
  some false
 else
  if (r3.2.2 != 0) = true then
   some false
  else
   if (r4.2.2 != 0) = true then
    some false
   else
    if (r5.2 != 0) = true then
     some false
    else
     if (r6.2 != 0) = true then
      some false
     else
      if (r7.2 != 0) = true then
       some false
      else
       if ((r8.1.length:Int) != 2) = true then
        some false
       else
        if ((r8.2.length:Int) != 2) = true then
         some false
        else
         (gQ r2.1 [0,0,0,0]).bind fun (r9:Bool) =>
         if r9 = true then
          (gQ r3.1 [2,0,0,2]).bind fun (r10:Bool) =>
          if r10 = true then
           (gQ r4.1 [5,5,5,0]).bind fun (r11:Bool) =>
           (iP r1 r3 r5 r6 r7 r8 r11).bind fun (r28:Bool) =>
           some r28
          else
           (iP r1 r3 r5 r6 r7 r8 false).bind fun (r29:Bool) =>
           some r29
         else
          (iP r1 r3 r5 r6 r7 r8 false).bind fun (r30:Bool) =>
          some r30
def bS (a0:List aE) (p1:Int) (p2:List aF):Option ((Int × (List aF)) ⊕ ((List aF))) :=
 if decide (p1 < (a0.length:Int)) = true then
  (at? a0 p1).bind fun (x3:aE) =>
  (at? a0 p1).bind fun (x4:aE) =>
  (at? a0 p1).bind fun (x5:aE) =>
  if (p2.length + 1) * 24 <= 140737488355328 then
   some (.inl (IntKind.wrap .i64 (p1 + 1),p2 ++ [(aF.mk x3.From x4.To x5.Sum)]))
  else none
 else
  some (.inr (p2))
def lM (a0:List aE) (p1:Int) (p2:List aF):Option ((List aF)) :=
 dO (fun (w:Int × (List aF))=>bS a0 w.1 w.2) (p1,p2)
def gN (a0:List aE):Option ((List aF)) :=
 (lM a0 0 []).bind fun (r7:(List aF)) =>
 some r7
def bJ (a0:Int) (a1:List aF) (p1:Int):Option ((Int) ⊕ (Unit ⊕ Unit)) :=
 if decide (p1 < (a1.length:Int)) = true then
  if decide (p1 < 20) = true then
   (at? a1 p1).bind fun (x2:aF) =>
   if decide (x2.Sum > 12) = true then
    (at? a1 p1).bind fun (x3:aF) =>
    if decide (x3.Sum <= 1099511627776) = true then
     some (.inr (.inr (())))
    else
     some (.inl (IntKind.wrap .i64 (p1 + 1)))
   else
    some (.inl (IntKind.wrap .i64 (p1 + 1)))
  else
   some (.inr (.inl ()))
 else
  some (.inr (.inl ()))
def jK (a0:Int) (a1:List aF) (p1:Int):Option (Unit ⊕ Unit) :=
 dO (fun (w:Int)=>bJ a0 a1 w) p1
def j6 (a0:Int) (a1:List aF):Option (Bool) :=
 (jK a0 a1 0).bind fun (r4:Unit ⊕ Unit)=>Sum.elim (fun z5 =>
 if decide (a0 <= 6) = true then
   if decide ((a1.length:Int) <= 9) = true then
    some true
   else
    if decide ((a1.length:Int) > 100) = true then
     some (decide ((a1.length:Int) < 200))
    else
     some false
  else
   if decide (a0 > 40) = true then
    if decide ((a1.length:Int) <= 9) = true then
     some true
    else
     if decide ((a1.length:Int) > 100) = true then
      some (decide ((a1.length:Int) < 200))
     else
      some false
   else
    some false) (fun z6 =>
 some false) r4
def cJ (a0:List Int) (a1 p1:Int):Option ((Int) ⊕ (Unit ⊕ Unit)) :=
 if decide (p1 < (a0.length:Int)) = true then
  (at? a0 p1).bind fun (x2:Int) =>
  if (x2 == a1) = true then
   some (.inr (.inr (())))
  else
   some (.inl (IntKind.wrap .i64 (p1 + 1)))
 else
  some (.inr (.inl ()))
def mS (a0:List Int) (a1 p1:Int):Option (Unit ⊕ Unit) :=
 dO (fun (w:Int)=>cJ a0 a1 w) p1
def jY (a0:List Int) (a1:Int):Option (Bool) :=
 (mS a0 a1 0).bind fun (r3:Unit ⊕ Unit)=>Sum.elim (fun z4 =>
 some false) (fun z5 =>
 some true) r3
def fD (a0:List Int) (a1 p3:Int) (p6:Bool) (p7:List Int):Option ((List Int)) :=
 (at? a0 p3).bind fun (x8:Int) =>
 if (p7.length + 1) * 8 <= 140737488355328 then
  some (p7 ++ [x8])
 else none
def bA (a0:List Int) (a1:Int) (p2:Bool) (p3:Int) (p4:List Int):Option ((Bool × Int × (List Int)) ⊕ (Bool × (List Int))) :=
 if decide (p3 < (a0.length:Int)) = true then
  if (!(p2)) = true then
   (at? a0 p3).bind fun (x5:Int) =>
   if decide (a1 < x5) = true then
    if (p4.length + 1) * 8 <= 140737488355328 then
     (fD a0 a1 p3 true (p4 ++ [a1])).bind fun (r10:(List Int)) =>
     some (.inl (true,IntKind.wrap .i64 (p3 + 1),r10))
    else none
   else
    (fD a0 a1 p3 p2 p4).bind fun (r11:(List Int)) =>
    some (.inl (p2,IntKind.wrap .i64 (p3 + 1),r11))
  else
   (fD a0 a1 p3 p2 p4).bind fun (r12:(List Int)) =>
   some (.inl (p2,IntKind.wrap .i64 (p3 + 1),r12))
 else
  some (.inr ((p2,p4)))
def mC (a0:List Int) (a1:Int) (p2:Bool) (p3:Int) (p4:List Int):Option (Bool × (List Int)) :=
 dO (fun (w:Bool × Int × (List Int))=>bA a0 a1 w.1 w.2.1 w.2.2) (p2,p3,p4)
def jX (a0:List Int) (a1:Int):Option ((List Int)) :=
 (jY a0 a1).bind fun (r1:Bool) =>
 if r1 = true then
  some a0
 else
  (mC a0 a1 false 0 []).bind fun (r15:Bool × (List Int)) =>
  if (!(r15.1)) = true then
   if (r15.2.length + 1) * 8 <= 140737488355328 then
    some (r15.2 ++ [a1])
   else none
  else
   some r15.2
def bV (a0:List aE) (p2:Int) (p3:List Int) (p4:Int):Option (((List Int) × Int) ⊕ ((List Int))) :=
 (at? a0 p2).bind fun (x5:aE) =>
 if decide (p4 < (x5.Rights.length:Int)) = true then
  (at? a0 p2).bind fun (x6:aE) =>
  (at? x6.Rights p4).bind fun (x7:aJ) =>
  (jX p3 x7.Owner).bind fun (r8:(List Int)) =>
  some (.inl (r8,IntKind.wrap .i64 (p4 + 1)))
 else
  some (.inr (p3))
def gV (a0:List aE) (p2:Int) (p3:List Int) (p4:Int):Option ((List Int)) :=
 dO (fun (w:(List Int) × Int)=>bV a0 p2 w.1 w.2) (p3,p4)
def bK (a0:List aE) (p1:List Int) (p2:Int):Option (((List Int) × Int) ⊕ ((List Int))) :=
 if decide (p2 < (a0.length:Int)) = true then
  (gV a0 p2 p1 0).bind fun (r10:(List Int)) =>
  some (.inl (r10,IntKind.wrap .i64 (p2 + 1)))
 else
  some (.inr (p1))
def jP (a0:List aE) (p1:List Int) (p2:Int):Option ((List Int)) :=
 dO (fun (w:(List Int) × Int)=>bK a0 w.1 w.2) (p1,p2)
def gU (a0:List aE):Option ((List Int)) :=
 (jP a0 [] 0).bind fun (r12:(List Int)) =>
 some r12
def bY (a0:Int) (a1:List aE) (p1:Int):Option ((Int) ⊕ (Unit ⊕ Unit)) :=
 if decide (p1 < (a1.length:Int)) = true then
  (at? a1 p1).bind fun (x2:aE) =>
  if decide ((x2.Rights.length:Int) > 12) = true then
   some (.inr (.inr (())))
  else
   some (.inl (IntKind.wrap .i64 (p1 + 1)))
 else
  some (.inr (.inl ()))
def mV (a0:Int) (a1:List aE) (p1:Int):Option (Unit ⊕ Unit) :=
 dO (fun (w:Int)=>bY a0 a1 w) p1
def j5 (a0:Int) (a1:List aE):Option (Bool) :=
 (mV a0 a1 0).bind fun (r3:Unit ⊕ Unit)=>Sum.elim (fun z4 =>
 if decide ((a1.length:Int) <= 9) = true then
   (gN a1).bind fun (r6:(List aF)) =>
   (j6 a0 r6).bind fun (r7:Bool) =>
   if r7 = true then
    (gU a1).bind fun (r8:(List Int)) =>
    some (decide ((r8.length:Int) <= 4))
   else
    some false
  else
   some false) (fun z5 =>
 some false) r3
def bG (a0:Int) (a1:List aE) (a2:Int) (r1:Bool) (r4:(List Int)) (r8:(List Int) × (List Int) × Int) (p11:Int):Option ((Int) ⊕ (Unit ⊕ Unit)) :=
 if decide (p11 < (a1.length:Int)) = true then
  (at? r8.1 p11).bind fun (x12:Int) =>
  if decide (x12 > 0) = true then
   (at? a1 p11).bind fun (x13:aE) =>
   if decide ((x13.Rights.length:Int) > 0) = true then
    some (.inr (.inr (())))
   else
    some (.inl (IntKind.wrap .i64 (p11 + 1)))
  else
   some (.inl (IntKind.wrap .i64 (p11 + 1)))
 else
  some (.inr (.inl ()))
def gY (a0:Int) (a1:List aE) (a2:Int) (r1:Bool) (r4:(List Int)) (r8:(List Int) × (List Int) × Int) (p11:Int):Option (Unit ⊕ Unit) :=
 dO (fun (w:Int)=>bG a0 a1 a2 r1 r4 r8 w) p11
def gB (a0:Int) (a1:List aE) (a2:Int):Option (Bool) :=
 (fV).bind fun (r1:Bool) =>
 (j5 a0 a1).bind fun (r2:Bool) =>
 if (!(r2)) = true then
  some r1
 else
  (iD a0 a1).bind fun (r3:Int) =>
  if (r3 != 0) = true then
   some r1
  else
   (gD a1).bind fun (r4:(List Int)) =>
   (dK a0 a1 r4).bind fun (r5:(List Int) × (List Int) × Int) =>
   (gN a1).bind fun (r6:(List aF)) =>
   (iT a0 r6).bind fun (r7:(List Int) × (List Int) × Int) =>
   (dK a0 a1 []).bind fun (r8:(List Int) × (List Int) × Int) =>
   if (r5.2.2 != 0) = true then
    some false
   else
    if (r7.2.2 != 0) = true then
     some false
    else
     if (r8.2.2 != 0) = true then
      some false
     else
      (c9 r5.1).bind fun (r9:Int) =>
      (c9 r7.1).bind fun (r10:Int) =>
      if (r9 != r10) = true then
       some false
      else
       if ((r8.1.length:Int) != (a1.length:Int)) = true then
        some false
       else
        (gY a0 a1 a2 r1 r4 r8 0).bind fun (r14:Unit ⊕ Unit)=>Sum.elim (fun z15 =>
        if ((r4.length:Int) == 0) = true then
          some r1
         else
          if (IntKind.wrap .i64 ((r4.length:Int) + 1)) = 0 then
           none
          else
           if i5 r4.length 0 ((IntKind.wrap .i64 a2).tmod (IntKind.wrap .i64 ((r4.length:Int) + 1))) then
            (dK a0 a1 (j8 r4 0 ((IntKind.wrap .i64 a2).tmod (IntKind.wrap .i64 ((r4.length:Int) + 1))))).bind fun (r17:(List Int) × (List Int) × Int) =>
            if i5 r4.length 0 (if (IntKind.wrap .i64 (((IntKind.wrap .i64 a2).tmod (IntKind.wrap .i64 ((r4.length:Int) + 1))) + 1)) < (r4.length:Int) then IntKind.wrap .i64 (((IntKind.wrap .i64 a2).tmod (IntKind.wrap .i64 ((r4.length:Int) + 1))) + 1) else (r4.length:Int)) then
             (dK a0 a1 (j8 r4 0 (if (IntKind.wrap .i64 (((IntKind.wrap .i64 a2).tmod (IntKind.wrap .i64 ((r4.length:Int) + 1))) + 1)) < (r4.length:Int) then IntKind.wrap .i64 (((IntKind.wrap .i64 a2).tmod (IntKind.wrap .i64 ((r4.length:Int) + 1))) + 1) else (r4.length:Int)))).bind fun (r18:(List Int) × (List Int) × Int) =>
             if r1 = true then
              if (r17.2.2 == 0) = true then
               if (r18.2.2 == 0) = true then
                (c9 r17.1).bind fun (r19:Int) =>
                (c9 r18.1).bind fun (r20:Int) =>
                if decide (r19 <= r20) = true then
                 (c9 r8.1).bind fun (r21:Int) =>
                 (c9 r17.1).bind fun (r22:Int) =>
                 some (decide (r21 <= r22))
                else
                 some false
               else
                some false
              else
               some false
             else
              some false
            else none
           else none) (fun z16 =>
        some false) r14
end
end Go.Proofs.Ytgjcnbgfaimepaa
