/- What the functions compute, as plain definitions. Printed by a program. -/
import Derived.Test.YtgjcnbgfaimepaaTab
set_option linter.unusedVariables false
set_option linter.unusedSimpArgs false
namespace Go.Proofs.Ytgjcnbgfaimepaa
noncomputable section
open Vm
open Go.RowKit
def rF:Option ((List aF)) :=
 some [(aF.mk 0 1 5 0 0 0 []),(aF.mk 1 2 5 0 0 0 [(aT.mk 0 7)]),(aF.mk 2 0 5 0 0 0 []),(aF.mk 1 0 2 0 0 0 [(aT.mk 3 1)])]
def B3 (a0:aF):Option (aI) :=
 some (aI.mk a0.From a0.To a0.Sum)
def tV (a0 a1:Int):Option (Bool) :=
 if decide (a0 ≥ 0) = true then
  some (decide (a0 < a1))
 else
  some false
def fU (a0:Int) (a1:List aI) (p1:Int):Option ((Int) ⊕ (Unit ⊕ Unit)) :=
 if decide (p1 < (a1.length:Int)) = true then
  (at? a1 p1).bind fun (x2:aI) =>
  if decide (x2.From < 0) = true then
   some (.inr (.inr (())))
  else
   if decide (x2.From ≥ a0) = true then
    some (.inr (.inr (())))
   else
    if decide (x2.To < 0) = true then
     some (.inr (.inr (())))
    else
     if decide (x2.To ≥ a0) = true then
      some (.inr (.inr (())))
     else
      if (x2.From == x2.To) = true then
       some (.inr (.inr (())))
      else
       if decide (x2.Sum < 1) = true then
        some (.inr (.inr (())))
       else
        if decide (x2.Sum > 1099511627776) = true then
         some (.inr (.inr (())))
        else
         some (.inl (IntKind.wrap .i64 (p1 + 1)))
 else
  some (.inr (.inl ()))
def qZ (a0:Int) (a1:List aI) (p1:Int):Option (Unit ⊕ Unit) :=
 bV (fun (w:Int)=>fU a0 a1 w) p1
def mK (a0:Int) (a1:List aI):Option (Bool) :=
 if decide (a0 < 0) = true then
  some false
 else
  if decide (a0 > 40) = true then
   some false
  else
   if decide ((a1.length:Int) > 100) = true then
    some false
   else
    (qZ a0 a1 0).bind fun (r3:Unit ⊕ Unit)=>Sum.elim (fun z4 =>
    some true) (fun z5 =>
    some false) r3
def gW (a0:Int) (a1:List aF) (p1:Int) (p2:List aI) (r4:aI) (x3:aF) (p8:Int):Option ((Int) ⊕ (Unit ⊕ Unit)) :=
 if decide (p8 < (x3.Rights.length:Int)) = true then
  (at? x3.Rights p8).bind fun (x9:aT) =>
  (tV x9.Kind 4).bind fun (r10:Bool) =>
  if (!(r10)) = true then
   some (.inr (.inr (())))
  else
   (tV x9.Owner 200).bind fun (r11:Bool) =>
   if (!(r11)) = true then
    some (.inr (.inr (())))
   else
    some (.inl (IntKind.wrap .i64 (p8 + 1)))
 else
  some (.inr (.inl ()))
def uR (a0:Int) (a1:List aF) (p1:Int) (p2:List aI) (r4:aI) (x3:aF) (p8:Int):Option (Unit ⊕ Unit) :=
 bV (fun (w:Int)=>gW a0 a1 p1 p2 r4 x3 w) p8
def hY (a0:Int) (a1:List aF) (p1:Int) (p2:List aI):Option ((Int × (List aI)) ⊕ (((List aI)) ⊕ Unit)) :=
 if decide (p1 < (a1.length:Int)) = true then
  (at? a1 p1).bind fun (x3:aF) =>
  (B3 x3).bind fun (r4:aI) =>
  if (p2.length + 1) * 24 <= 140737488355328 then
   (tV x3.File 50).bind fun (r5:Bool) =>
   if (!(r5)) = true then
    some (.inr (.inr (())))
   else
    (tV x3.Part 4).bind fun (r6:Bool) =>
    if (!(r6)) = true then
     some (.inr (.inr (())))
    else
     (tV x3.Sign 40).bind fun (r7:Bool) =>
     if (!(r7)) = true then
      some (.inr (.inr (())))
     else
      if decide ((x3.Rights.length:Int) > 8) = true then
       some (.inr (.inr (())))
      else
       (uR a0 a1 p1 p2 r4 x3 0).bind fun (r12:Unit ⊕ Unit)=>Sum.elim (fun z13 =>
       some (.inl (IntKind.wrap .i64 (p1 + 1),p2 ++ [r4]))) (fun z14 =>
       some (.inr (.inr (())))) r12
  else none
 else
  some (.inr (.inl p2))
def vA (a0:Int) (a1:List aF) (p1:Int) (p2:List aI):Option (((List aI)) ⊕ Unit) :=
 bV (fun (w:Int × (List aI))=>hY a0 a1 w.1 w.2) (p1,p2)
def lH (a0:Int) (a1:List aF):Option (Int) :=
 (vA a0 a1 0 []).bind fun (r16:((List aI)) ⊕ Unit)=>Sum.elim (fun z17 =>
 (mK a0 z17).bind fun (r19:Bool) =>
  if (!(r19)) = true then
   some 1
  else
   some 0) (fun z18 =>
 some 1) r16
def gX (a0:List Int) (p1 p2:Int):Option ((Int × Int) ⊕ (Unit ⊕ Unit)) :=
 if decide (p2 < (a0.length:Int)) = true then
  (at? a0 p2).bind fun (x3:Int) =>
  if decide (x3 <= p1) = true then
   some (.inr (.inr (())))
  else
   if decide (x3 ≥ 200) = true then
    some (.inr (.inr (())))
   else
    some (.inl (x3,IntKind.wrap .i64 (p2 + 1)))
 else
  some (.inr (.inl ()))
def yR (a0:List Int) (p1 p2:Int):Option (Unit ⊕ Unit) :=
 bV (fun (w:Int × Int)=>gX a0 w.1 w.2) (p1,p2)
def tP (a0:List Int):Option (Bool) :=
 (yR a0 (-1) 0).bind fun (r4:Unit ⊕ Unit)=>Sum.elim (fun z5 =>
 some true) (fun z6 =>
 some false) r4
def cU (a0:List Int) (a1 p1:Int):Option ((Int) ⊕ (Unit ⊕ Int)) :=
 if decide (p1 < (a0.length:Int)) = true then
  (at? a0 p1).bind fun (x2:Int) =>
  if (a1 == x2) = true then
   some (.inr (.inr (p1)))
  else
   some (.inl (IntKind.wrap .i64 (p1 + 1)))
 else
  some (.inr (.inl ()))
def nE (a0:List Int) (a1 p1:Int):Option (Unit ⊕ Int) :=
 bV (fun (w:Int)=>cU a0 a1 w) p1
def kI (a0:List Int) (a1:Int):Option (Int) :=
 (nE a0 a1 0).bind fun (r4:Unit ⊕ Int)=>Sum.elim (fun z5 =>
 some (-1)) (fun z6 =>
 some z6) r4
def eV (a0:List Int) (a1:Int):Option (Bool) :=
 (kI a0 a1).bind fun (r1:Int) =>
 some (decide (r1 ≥ 0))
def sO (a0:aT) (a1:List Int):Option (Bool) :=
 (eV a1 a0.Owner).bind fun (r1:Bool) =>
 some (!(r1))
def aU (a0:List aT) (a1:List Int) (p1:Int):Option ((Int) ⊕ (Unit ⊕ Int)) :=
 if decide (p1 < (a0.length:Int)) = true then
  (at? a0 p1).bind fun (x2:aT) =>
  (sO x2 a1).bind fun (r3:Bool) =>
  if r3 = true then
   some (.inr (.inr (p1)))
  else
   some (.inl (IntKind.wrap .i64 (p1 + 1)))
 else
  some (.inr (.inl ()))
def eN (a0:List aT) (a1:List Int) (p1:Int):Option (Unit ⊕ Int) :=
 bV (fun (w:Int)=>aU a0 a1 w) p1
def dJ (a0:List aT) (a1:List Int):Option (Int) :=
 (eN a0 a1 0).bind fun (r5:Unit ⊕ Int)=>Sum.elim (fun z6 =>
 some (-1)) (fun z7 =>
 some z7) r5
def cH (a0:List aT) (a1:List Int):Option (Bool) :=
 (dJ a0 a1).bind fun (r1:Int) =>
 some (decide (r1 ≥ 0))
def wT (a0:aF) (a1:List Int):Option (Bool) :=
 (cH a0.Rights a1).bind fun (r1:Bool) =>
 some (!(r1))
def m9 (a0:List aI) (a1:List Int) (p1:Int) (x3:aI) (p6:List aC):Option ((List aC)) :=
 (at? a1 p1).bind fun (x7:Int) =>
 if decide (x7 > 0) = true then
  (at? a1 p1).bind fun (x8:Int) =>
  if (p6.length + 1) * 48 <= 140737488355328 then
   some (p6 ++ [(aC.mk p1 x3.To x3.From 1 x8 true)])
  else none
 else
  some (p6)
def e9 (a0:List aI) (a1:List Int) (p1:Int) (p2:List aC):Option ((Int × (List aC)) ⊕ ((List aC))) :=
 if decide (p1 < (a0.length:Int)) = true then
  (at? a0 p1).bind fun (x3:aI) =>
  (at? a1 p1).bind fun (x4:Int) =>
  if decide (x4 < x3.Sum) = true then
   (at? a1 p1).bind fun (x5:Int) =>
   if (p2.length + 1) * 48 <= 140737488355328 then
    (m9 a0 a1 p1 x3 (p2 ++ [(aC.mk p1 x3.From x3.To (-1) (IntKind.wrap .i64 (x3.Sum - x5)) false)])).bind fun (r10:(List aC)) =>
    some (.inl (IntKind.wrap .i64 (p1 + 1),r10))
   else none
  else
   (m9 a0 a1 p1 x3 p2).bind fun (r11:(List aC)) =>
   some (.inl (IntKind.wrap .i64 (p1 + 1),r11))
 else
  some (.inr (p2))
def w6 (a0:List aI) (a1:List Int) (p1:Int) (p2:List aC):Option ((List aC)) :=
 bV (fun (w:Int × (List aC))=>e9 a0 a1 w.1 w.2) (p1,p2)
def jM (a0:List aI) (a1:List Int):Option ((List aC)) :=
 (w6 a0 a1 0 []).bind fun (r13:(List aC)) =>
 some r13
def jU (a0:List Int) (a1:Int):Option ((List Int)):=aSb a0 a1
def jS (a0:aE) (a1:aC):Option (aE) :=
 some (aE.mk (IntKind.wrap .i64 (a0.c + a1.cost)) (IntKind.wrap .i64 (a0.steps + 1)) a0.fine)
def gT (a0 a1:aE):Option (Bool) :=
 if a0.fine = true then
  if (!(a1.fine)) = true then
   some true
  else
   if decide (a0.c < a1.c) = true then
    some true
   else
    if (a0.c == a1.c) = true then
     some (decide (a0.steps < a1.steps))
    else
     some false
 else
  some false
def dE (a0:Int) (a1:List aC) (a2:List Int) (p1:Int) (p2:List aE):Option ((Int × (List aE)) ⊕ ((List aE))) :=
 if decide (p1 < a0) = true then
  (at? a2 p1).bind fun (x3:Int) =>
  if 0 <= p1 ∧ p1.toNat < p2.length then
   (p2[p1.toNat]?).bind fun (x4:aE) =>
   some (.inl (IntKind.wrap .i64 (p1 + 1),p2.set p1.toNat (aE.mk x4.c x4.steps (decide (x3 > 0)))))
  else none
 else
  some (.inr (p2))
def m7 (a0:Int) (a1:List aC) (a2:List Int) (p1:Int) (p2:List aE):Option ((List aE)) :=
 bV (fun (w:Int × (List aE))=>dE a0 a1 a2 w.1 w.2) (p1,p2)
def fI (a1:List aC) (p11:Bool) (p12:Int) (p13:List aE) (p14:List Int):Option ((Bool × Int × (List aE) × (List Int)) ⊕ (Bool × (List aE) × (List Int))) :=
 if decide (p12 < (a1.length:Int)) = true then
  (at? a1 p12).bind fun (x15:aC) =>
  if 0 <= x15.from_ ∧ x15.from_.toNat < p13.length then
   (p13[x15.from_.toNat]?).bind fun (x16:aE) =>
   (jS x16 x15).bind fun (r17:aE) =>
   if 0 <= x15.to ∧ x15.to.toNat < p13.length then
    (p13[x15.to.toNat]?).bind fun (x18:aE) =>
    (gT r17 x18).bind fun (r19:Bool) =>
    if r19 = true then
     if 0 <= x15.to ∧ x15.to.toNat < p13.length then
      (p13[x15.to.toNat]?).bind fun (x20:aE) =>
      if 0 <= x15.to ∧ x15.to.toNat < p14.length then
       (p14[x15.to.toNat]?).bind fun (x21:Int) =>
       some (.inl (true,IntKind.wrap .i64 (p12 + 1),p13.set x15.to.toNat r17,p14.set x15.to.toNat p12))
      else none
     else none
    else
     some (.inl (p11,IntKind.wrap .i64 (p12 + 1),p13,p14))
   else none
  else none
 else
  some (.inr ((p11,p13,p14)))
def mY (a1:List aC) (p11:Bool) (p12:Int) (p13:List aE) (p14:List Int):Option (Bool × (List aE) × (List Int)) :=
 bV (fun (w:Bool × Int × (List aE) × (List Int))=>fI a1 w.1 w.2.1 w.2.2.1 w.2.2.2) (p11,p12,p13,p14)
def iY (a1:List aC) (p8:Bool) (p9:List aE) (p10:List Int):Option ((Bool × (List aE) × (List Int)) ⊕ ((List aE) × (List Int))) :=
 if p8 = true then
  (mY a1 false 0 p9 p10).bind fun (r25:Bool × (List aE) × (List Int)) =>
  some (.inl (r25.1,r25.2.1,r25.2.2))
 else
  some (.inr ((p9,p10)))
def mX (a1:List aC) (p8:Bool) (p9:List aE) (p10:List Int):Option ((List aE) × (List Int)) :=
 bV (fun (w:Bool × (List aE) × (List Int))=>iY a1 w.1 w.2.1 w.2.2) (p8,p9,p10)
def jF (a0:Int) (a1:List aC) (a2:List Int):Option ((List aE) × (List Int)) :=
 if 0 <= a0 ∧ a0 <= a0 ∧ 24 * a0 <= 281474976710656 ∧ a0 <= 9223372036854775807 then
  (m7 a0 a1 a2 0 (List.replicate a0.toNat ((aE.mk 0 0 false):aE))).bind fun (r6:(List aE)) =>
  (jU [(-1)] (r6.length:Int)).bind fun (r7:(List Int)) =>
  (mX a1 true r6 r7).bind fun (r28:(List aE) × (List Int)) =>
  some (r28.1,r28.2)
 else none
def iZ (a0:aC) (a1:List Int) (p1:Int):Option ((List Int)) :=
 if 0 <= a0.due ∧ a0.due.toNat < a1.length then
  (a1[a0.due.toNat]?).bind fun (x2:Int) =>
  if 0 <= a0.due ∧ a0.due.toNat < a1.length then
   (a1[a0.due.toNat]?).bind fun (x3:Int) =>
   some (a1.set a0.due.toNat (IntKind.wrap .i64 (x2 + p1)))
  else none
 else none
def gN (a0:aC) (a1:List Int) (a2:Int):Option ((List Int)) :=
 if a0.back = true then
  (iZ a0 a1 (IntKind.wrap .i64 (0 - a2))).bind fun (r5:(List Int)) =>
  some r5
 else
  (iZ a0 a1 a2).bind fun (r6:(List Int)) =>
  some r6
def dU (a0:Int) (a1:List aI) (a2:List Int) (p1:Int) (p2:List Int):Option ((Int × (List Int)) ⊕ ((List Int))) :=
 if decide (p1 < (a1.length:Int)) = true then
  (at? a1 p1).bind fun (x3:aI) =>
  if 0 <= x3.To ∧ x3.To.toNat < p2.length then
   (p2[x3.To.toNat]?).bind fun (x4:Int) =>
   if 0 <= p1 ∧ p1.toNat < a2.length then
    (a2[p1.toNat]?).bind fun (x5:Int) =>
    if 0 <= x3.To ∧ x3.To.toNat < p2.length then
     (p2[x3.To.toNat]?).bind fun (x6:Int) =>
     if 0 <= x3.From ∧ x3.From.toNat < (p2.set x3.To.toNat (IntKind.wrap .i64 (x4 + x5))).length then
      ((p2.set x3.To.toNat (IntKind.wrap .i64 (x4 + x5)))[x3.From.toNat]?).bind fun (x7:Int) =>
      if 0 <= p1 ∧ p1.toNat < a2.length then
       (a2[p1.toNat]?).bind fun (x8:Int) =>
       if 0 <= x3.From ∧ x3.From.toNat < (p2.set x3.To.toNat (IntKind.wrap .i64 (x4 + x5))).length then
        ((p2.set x3.To.toNat (IntKind.wrap .i64 (x4 + x5)))[x3.From.toNat]?).bind fun (x9:Int) =>
        some (.inl (IntKind.wrap .i64 (p1 + 1),(p2.set x3.To.toNat (IntKind.wrap .i64 (x4 + x5))).set x3.From.toNat (IntKind.wrap .i64 (x7 - x8))))
       else none
      else none
     else none
    else none
   else none
  else none
 else
  some (.inr (p2))
def oF (a0:Int) (a1:List aI) (a2:List Int) (p1:Int) (p2:List Int):Option ((List Int)) :=
 bV (fun (w:Int × (List Int))=>dU a0 a1 a2 w.1 w.2) (p1,p2)
def aX (a0:Int) (a1:List aI) (p12 p13:List Int) (r14:(List aC)) (r15:(List aE) × (List Int)) (p16 p17:Int):Option ((Int × Int) ⊕ (Int)) :=
 if decide (p17 < a0) = true then
  if 0 <= p17 ∧ p17.toNat < p12.length then
   (p12[p17.toNat]?).bind fun (x18:Int) =>
   if decide (x18 < 0) = true then
    if decide (p16 < 0) = true then
     if 0 <= p17 ∧ p17.toNat < r15.1.length then
      (r15.1[p17.toNat]?).bind fun (x19:aE) =>
      if x19.fine = true then
       some (.inl (p17,IntKind.wrap .i64 (p17 + 1)))
      else
       if decide (p16 ≥ 0) = true then
        if 0 <= p17 ∧ p17.toNat < r15.1.length then
         (r15.1[p17.toNat]?).bind fun (x20:aE) =>
         if 0 <= p16 ∧ p16.toNat < r15.1.length then
          (r15.1[p16.toNat]?).bind fun (x21:aE) =>
          (gT x20 x21).bind fun (r22:Bool) =>
          if r22 = true then
           some (.inl (p17,IntKind.wrap .i64 (p17 + 1)))
          else
           some (.inl (p16,IntKind.wrap .i64 (p17 + 1)))
         else none
        else none
       else
        some (.inl (p16,IntKind.wrap .i64 (p17 + 1)))
     else none
    else
     if decide (p16 ≥ 0) = true then
      if 0 <= p17 ∧ p17.toNat < r15.1.length then
       (r15.1[p17.toNat]?).bind fun (x23:aE) =>
       if 0 <= p16 ∧ p16.toNat < r15.1.length then
        (r15.1[p16.toNat]?).bind fun (x24:aE) =>
        (gT x23 x24).bind fun (r25:Bool) =>
        if r25 = true then
         some (.inl (p17,IntKind.wrap .i64 (p17 + 1)))
        else
         some (.inl (p16,IntKind.wrap .i64 (p17 + 1)))
       else none
      else none
     else
      some (.inl (p16,IntKind.wrap .i64 (p17 + 1)))
   else
    some (.inl (p16,IntKind.wrap .i64 (p17 + 1)))
  else none
 else
  some (.inr (p16))
def oB (a0:Int) (a1:List aI) (p12 p13:List Int) (r14:(List aC)) (r15:(List aE) × (List Int)) (p16 p17:Int):Option (Int) :=
 bV (fun (w:Int × Int)=>aX a0 a1 p12 p13 r14 r15 w.1 w.2) (p16,p17)
def fS (a0:Int) (a1:List aI) (p12 p13:List Int) (r14:(List aC)) (r15:(List aE) × (List Int)) (r27 p29 p30:Int):Option ((Int × Int) ⊕ (Int × Int)) :=
 if 0 <= p30 ∧ p30.toNat < r15.2.length then
  (r15.2[p30.toNat]?).bind fun (x31:Int) =>
  if decide (x31 ≥ 0) = true then
   if 0 <= p30 ∧ p30.toNat < r15.2.length then
    (r15.2[p30.toNat]?).bind fun (x32:Int) =>
    if 0 <= x32 ∧ x32.toNat < r14.length then
     (r14[x32.toNat]?).bind fun (x33:aC) =>
     if 0 <= p30 ∧ p30.toNat < r15.2.length then
      (r15.2[p30.toNat]?).bind fun (x34:Int) =>
      if 0 <= x34 ∧ x34.toNat < r14.length then
       (r14[x34.toNat]?).bind fun (x35:aC) =>
       some (.inl ((if x33.most < p29 then x33.most else p29),x35.from_))
      else none
     else none
    else none
   else none
  else
   some (.inr ((p29,p30)))
 else none
def jL (a0:Int) (a1:List aI) (p12 p13:List Int) (r14:(List aC)) (r15:(List aE) × (List Int)) (r27 p29 p30:Int):Option (Int × Int) :=
 bV (fun (w:Int × Int)=>fS a0 a1 p12 p13 r14 r15 r27 w.1 w.2) (p29,p30)
def fP (a0:Int) (a1:List aI) (p12:List Int) (r14:(List aC)) (r15:(List aE) × (List Int)) (r27:Int) (r38:Int × Int) (x39 p40:Int) (p41:List Int):Option ((Int × (List Int)) ⊕ ((List Int))) :=
 if 0 <= p40 ∧ p40.toNat < r15.2.length then
  (r15.2[p40.toNat]?).bind fun (x42:Int) =>
  if decide (x42 ≥ 0) = true then
   if 0 <= p40 ∧ p40.toNat < r15.2.length then
    (r15.2[p40.toNat]?).bind fun (x43:Int) =>
    if 0 <= x43 ∧ x43.toNat < r14.length then
     (r14[x43.toNat]?).bind fun (x44:aC) =>
     (gN x44 p41 (if x39 < r38.1 then x39 else r38.1)).bind fun (r45:(List Int)) =>
     if 0 <= p40 ∧ p40.toNat < r15.2.length then
      (r15.2[p40.toNat]?).bind fun (x46:Int) =>
      if 0 <= x46 ∧ x46.toNat < r14.length then
       (r14[x46.toNat]?).bind fun (x47:aC) =>
       some (.inl (x47.from_,r45))
      else none
     else none
    else none
   else none
  else
   some (.inr (p41))
 else none
def jK (a0:Int) (a1:List aI) (p12:List Int) (r14:(List aC)) (r15:(List aE) × (List Int)) (r27:Int) (r38:Int × Int) (x39 p40:Int) (p41:List Int):Option ((List Int)) :=
 bV (fun (w:Int × (List Int))=>fP a0 a1 p12 r14 r15 r27 r38 x39 w.1 w.2) (p40,p41)
def eU (a0:Int) (a1:List aI) (p12 p13:List Int):Option (((List Int) × (List Int)) ⊕ ((List Int))) :=
 (jM a1 p13).bind fun (r14:(List aC)) =>
 (jF a0 r14 p12).bind fun (r15:(List aE) × (List Int)) =>
 (oB a0 a1 p12 p13 r14 r15 (-1) 0).bind fun (r27:Int) =>
 if decide (r27 < 0) = true then
  some (.inr (p13))
 else
  if 0 <= r27 ∧ r27.toNat < p12.length then
   (p12[r27.toNat]?).bind fun (x28:Int) =>
   (jL a0 a1 p12 p13 r14 r15 r27 (IntKind.wrap .i64 (0 - x28)) r27).bind fun (r38:Int × Int) =>
   if 0 <= r38.2 ∧ r38.2.toNat < p12.length then
    (p12[r38.2.toNat]?).bind fun (x39:Int) =>
    (jK a0 a1 p12 r14 r15 r27 r38 x39 r27 p13).bind fun (r49:(List Int)) =>
    if 0 <= r38.2 ∧ r38.2.toNat < p12.length then
     (p12[r38.2.toNat]?).bind fun (x50:Int) =>
     if 0 <= r38.2 ∧ r38.2.toNat < p12.length then
      (p12[r38.2.toNat]?).bind fun (x51:Int) =>
      if 0 <= r27 ∧ r27.toNat < (p12.set r38.2.toNat (IntKind.wrap .i64 (x50 - (if x39 < r38.1 then x39 else r38.1)))).length then
       ((p12.set r38.2.toNat (IntKind.wrap .i64 (x50 - (if x39 < r38.1 then x39 else r38.1))))[r27.toNat]?).bind fun (x52:Int) =>
       if 0 <= r27 ∧ r27.toNat < (p12.set r38.2.toNat (IntKind.wrap .i64 (x50 - (if x39 < r38.1 then x39 else r38.1)))).length then
        ((p12.set r38.2.toNat (IntKind.wrap .i64 (x50 - (if x39 < r38.1 then x39 else r38.1))))[r27.toNat]?).bind fun (x53:Int) =>
        some (.inl ((p12.set r38.2.toNat (IntKind.wrap .i64 (x50 - (if x39 < r38.1 then x39 else r38.1)))).set r27.toNat (IntKind.wrap .i64 (x52 + (if x39 < r38.1 then x39 else r38.1))),r49))
       else none
      else none
     else none
    else none
   else none
  else none
def sD (a0:Int) (a1:List aI) (p12 p13:List Int):Option ((List Int)) :=
 bV (fun (w:(List Int) × (List Int))=>eU a0 a1 w.1 w.2) (p12,p13)
def oZ (a0:Int) (a1:List aI) (a2:List Int):Option ((List Int)) :=
 if 0 <= a0 ∧ a0 <= a0 ∧ 8 * a0 <= 281474976710656 ∧ a0 <= 9223372036854775807 then
  (oF a0 a1 a2 0 (List.replicate a0.toNat (0:Int))).bind fun (r11:(List Int)) =>
  (sD a0 a1 r11 a2).bind fun (r55:(List Int)) =>
  some r55
 else none
def jR (a0:Int) (a1:aC):Option (Int) :=
 some (IntKind.wrap .i64 (a0 + a1.cost))
def vB (a0:Int):Option (Bool) :=
 some (a0 != a0)
def xH (a0 a1:Int):Option (Bool) :=
 (vB a0).bind fun (r1:Bool) =>
 if r1 = true then
  (vB a1).bind fun (r2:Bool) =>
  if (!(r2)) = true then
   some true
  else
   some (decide (a0 < a1))
 else
  some (decide (a0 < a1))
def eM (r1:(List aC)) (p6:Bool) (p7:Int) (p8 p9:List Int):Option ((Bool × Int × (List Int) × (List Int)) ⊕ (Bool × (List Int) × (List Int))) :=
 if decide (p7 < (r1.length:Int)) = true then
  if 0 <= p7 ∧ p7.toNat < r1.length then
   (r1[p7.toNat]?).bind fun (x10:aC) =>
   if 0 <= x10.from_ ∧ x10.from_.toNat < p8.length then
    (p8[x10.from_.toNat]?).bind fun (x11:Int) =>
    (jR x11 x10).bind fun (r12:Int) =>
    if 0 <= x10.to ∧ x10.to.toNat < p8.length then
     (p8[x10.to.toNat]?).bind fun (x13:Int) =>
     (xH r12 x13).bind fun (r14:Bool) =>
     if r14 = true then
      if 0 <= x10.to ∧ x10.to.toNat < p8.length then
       (p8[x10.to.toNat]?).bind fun (x15:Int) =>
       if 0 <= x10.to ∧ x10.to.toNat < p9.length then
        (p9[x10.to.toNat]?).bind fun (x16:Int) =>
        some (.inl (true,IntKind.wrap .i64 (p7 + 1),p8.set x10.to.toNat r12,p9.set x10.to.toNat p7))
       else none
      else none
     else
      some (.inl (p6,IntKind.wrap .i64 (p7 + 1),p8,p9))
    else none
   else none
  else none
 else
  some (.inr ((p6,p8,p9)))
def kV (r1:(List aC)) (p6:Bool) (p7:Int) (p8 p9:List Int):Option (Bool × (List Int) × (List Int)) :=
 bV (fun (w:Bool × Int × (List Int) × (List Int))=>eM r1 w.1 w.2.1 w.2.2.1 w.2.2.2) (p6,p7,p8,p9)
def gV (r1:(List aC)) (p3:Bool) (p4 p5:List Int):Option ((Bool × (List Int) × (List Int)) ⊕ ((List Int) × (List Int))) :=
 if p3 = true then
  (kV r1 false 0 p4 p5).bind fun (r20:Bool × (List Int) × (List Int)) =>
  some (.inl (r20.1,r20.2.1,r20.2.2))
 else
  some (.inr ((p4,p5)))
def kU (r1:(List aC)) (p3:Bool) (p4 p5:List Int):Option ((List Int) × (List Int)) :=
 bV (fun (w:Bool × (List Int) × (List Int))=>gV r1 w.1 w.2.1 w.2.2) (p3,p4,p5)
def gU (a0:Int) (a1:List aI) (a2:List Int):Option ((List Int)) :=
 if 0 <= a0 ∧ a0 <= a0 ∧ 8 * a0 <= 281474976710656 ∧ a0 <= 9223372036854775807 then
  (jM a1 a2).bind fun (r1:(List aC)) =>
  (jU [(-1)] ((List.replicate a0.toNat (0:Int)).length:Int)).bind fun (r2:(List Int)) =>
  (kU r1 true (List.replicate a0.toNat (0:Int)) r2).bind fun (r23:(List Int) × (List Int)) =>
  some r23.1
 else none
def e8 (a0:Int) (a1:List aI) (a3:List Int) (a4:Int) (p5:List Int) (r8:(List aC)) (p9:Int) (p10:List aC):Option ((Int × (List aC)) ⊕ ((List aC))) :=
 if decide (p9 < (r8.length:Int)) = true then
  if 0 <= p9 ∧ p9.toNat < r8.length then
   (r8[p9.toNat]?).bind fun (x11:aC) =>
   if decide (x11.due > a4) = true then
    (at? a3 x11.to).bind fun (x12:Int) =>
    (at? a3 x11.from_).bind fun (x13:Int) =>
    if (x12 == (IntKind.wrap .i64 (x13 + x11.cost))) = true then
     if (p10.length + 1) * 48 <= 140737488355328 then
      some (.inl (IntKind.wrap .i64 (p9 + 1),p10 ++ [x11]))
     else none
    else
     some (.inl (IntKind.wrap .i64 (p9 + 1),p10))
   else
    some (.inl (IntKind.wrap .i64 (p9 + 1),p10))
  else none
 else
  some (.inr (p10))
def qX (a0:Int) (a1:List aI) (a3:List Int) (a4:Int) (p5:List Int) (r8:(List aC)) (p9:Int) (p10:List aC):Option ((List aC)) :=
 bV (fun (w:Int × (List aC))=>e8 a0 a1 a3 a4 p5 r8 w.1 w.2) (p9,p10)
def eZ (a0:Int) (a1:List aI) (a3:List Int) (a4:Int) (p5:List Int) (r15:(List aC)) (x16:aI) (p18:Int) (p19:List aC):Option ((Int × (List aC)) ⊕ ((List aC))) :=
 if decide (p18 < (r15.length:Int)) = true then
  if 0 <= p18 ∧ p18.toNat < p19.length then
   (p19[p18.toNat]?).bind fun (x20:aC) =>
   some (.inl (IntKind.wrap .i64 (p18 + 1),p19.set p18.toNat (aC.mk x20.due x20.from_ x20.to 0 x20.most x20.back)))
  else none
 else
  some (.inr (p19))
def qV (a0:Int) (a1:List aI) (a3:List Int) (a4:Int) (p5:List Int) (r15:(List aC)) (x16:aI) (p18:Int) (p19:List aC):Option ((List aC)) :=
 bV (fun (w:Int × (List aC))=>eZ a0 a1 a3 a4 p5 r15 x16 w.1 w.2) (p18,p19)
def gO (a0:Int) (a1:List aI) (a3:List Int) (a4:Int) (p5:List Int) (r22:(List aC)) (r23:(List aE) × (List Int)) (p29 p30:Int):Option ((Int × Int) ⊕ (Int)) :=
 if 0 <= p30 ∧ p30.toNat < r23.2.length then
  (r23.2[p30.toNat]?).bind fun (x31:Int) =>
  if decide (x31 ≥ 0) = true then
   if 0 <= p30 ∧ p30.toNat < r23.2.length then
    (r23.2[p30.toNat]?).bind fun (x32:Int) =>
    if 0 <= x32 ∧ x32.toNat < r22.length then
     (r22[x32.toNat]?).bind fun (x33:aC) =>
     if 0 <= p30 ∧ p30.toNat < r23.2.length then
      (r23.2[p30.toNat]?).bind fun (x34:Int) =>
      if 0 <= x34 ∧ x34.toNat < r22.length then
       (r22[x34.toNat]?).bind fun (x35:aC) =>
       some (.inl ((if x33.most < p29 then x33.most else p29),x35.from_))
      else none
     else none
    else none
   else none
  else
   some (.inr (p29))
 else none
def kQ (a0:Int) (a1:List aI) (a3:List Int) (a4:Int) (p5:List Int) (r22:(List aC)) (r23:(List aE) × (List Int)) (p29 p30:Int):Option (Int) :=
 bV (fun (w:Int × Int)=>gO a0 a1 a3 a4 p5 r22 r23 w.1 w.2) (p29,p30)
def gQ (a0:Int) (a1:List aI) (a3:List Int) (a4:Int) (r22:(List aC)) (r23:(List aE) × (List Int)) (r37 p39:Int) (p40:List Int):Option ((Int × (List Int)) ⊕ ((List Int))) :=
 if 0 <= p39 ∧ p39.toNat < r23.2.length then
  (r23.2[p39.toNat]?).bind fun (x41:Int) =>
  if decide (x41 ≥ 0) = true then
   if 0 <= p39 ∧ p39.toNat < r23.2.length then
    (r23.2[p39.toNat]?).bind fun (x42:Int) =>
    if 0 <= x42 ∧ x42.toNat < r22.length then
     (r22[x42.toNat]?).bind fun (x43:aC) =>
     (gN x43 p40 r37).bind fun (r44:(List Int)) =>
     if 0 <= p39 ∧ p39.toNat < r23.2.length then
      (r23.2[p39.toNat]?).bind fun (x45:Int) =>
      if 0 <= x45 ∧ x45.toNat < r22.length then
       (r22[x45.toNat]?).bind fun (x46:aC) =>
       some (.inl (x46.from_,r44))
      else none
     else none
    else none
   else none
  else
   some (.inr (p40))
 else none
def kP (a0:Int) (a1:List aI) (a3:List Int) (a4:Int) (r22:(List aC)) (r23:(List aE) × (List Int)) (r37 p39:Int) (p40:List Int):Option ((List Int)) :=
 bV (fun (w:Int × (List Int))=>gQ a0 a1 a3 a4 r22 r23 r37 w.1 w.2) (p39,p40)
def d8 (a0:Int) (a1:List aI) (a3:List Int) (a4:Int) (p5:List Int):Option (((List Int)) ⊕ (((List Int)) ⊕ ((List Int)))) :=
 if 0 <= a4 ∧ a4.toNat < p5.length then
  (p5[a4.toNat]?).bind fun (x6:Int) =>
  (at? a1 a4).bind fun (x7:aI) =>
  if decide (x6 < x7.Sum) = true then
   (jM a1 p5).bind fun (r8:(List aC)) =>
   (qX a0 a1 a3 a4 p5 r8 0 []).bind fun (r15:(List aC)) =>
   if 0 <= a0 ∧ a0 <= a0 ∧ 8 * a0 <= 281474976710656 ∧ a0 <= 9223372036854775807 then
    (at? a1 a4).bind fun (x16:aI) =>
    if 0 <= x16.To ∧ x16.To.toNat < (List.replicate a0.toNat (0:Int)).length then
     ((List.replicate a0.toNat (0:Int))[x16.To.toNat]?).bind fun (x17:Int) =>
     (qV a0 a1 a3 a4 p5 r15 x16 0 r15).bind fun (r22:(List aC)) =>
     (jF a0 r22 ((List.replicate a0.toNat (0:Int)).set x16.To.toNat 1)).bind fun (r23:(List aE) × (List Int)) =>
     (at? a1 a4).bind fun (x24:aI) =>
     if 0 <= x24.From ∧ x24.From.toNat < r23.1.length then
      (r23.1[x24.From.toNat]?).bind fun (x25:aE) =>
      if (!(x25.fine)) = true then
       some (.inr (.inr (p5)))
      else
       (at? a1 a4).bind fun (x26:aI) =>
       if 0 <= a4 ∧ a4.toNat < p5.length then
        (p5[a4.toNat]?).bind fun (x27:Int) =>
        (at? a1 a4).bind fun (x28:aI) =>
        (kQ a0 a1 a3 a4 p5 r22 r23 (IntKind.wrap .i64 (x26.Sum - x27)) x28.From).bind fun (r37:Int) =>
        (at? a1 a4).bind fun (x38:aI) =>
        (kP a0 a1 a3 a4 r22 r23 r37 x38.From p5).bind fun (r48:(List Int)) =>
        if 0 <= a4 ∧ a4.toNat < r48.length then
         (r48[a4.toNat]?).bind fun (x49:Int) =>
         if 0 <= a4 ∧ a4.toNat < r48.length then
          (r48[a4.toNat]?).bind fun (x50:Int) =>
          some (.inl (r48.set a4.toNat (IntKind.wrap .i64 (x49 + r37))))
         else none
        else none
       else none
     else none
    else none
   else none
  else
   some (.inr (.inl p5))
 else none
def wD (a0:Int) (a1:List aI) (a3:List Int) (a4:Int) (p5:List Int):Option (((List Int)) ⊕ ((List Int))) :=
 bV (fun (w:(List Int))=>d8 a0 a1 a3 a4 w) p5
def rZ (a0:Int) (a1:List aI) (a2 a3:List Int) (a4:Int):Option ((List Int)) :=
 (at? a1 a4).bind fun (x1:aI) =>
 (at? a3 x1.To).bind fun (x2:Int) =>
 (at? a1 a4).bind fun (x3:aI) =>
 (at? a3 x3.From).bind fun (x4:Int) =>
 if (x2 != (IntKind.wrap .i64 (x4 - 1))) = true then
  some a2
 else
  (wD a0 a1 a3 a4 a2).bind fun (r53:((List Int)) ⊕ ((List Int)))=>Sum.elim (fun z54 =>
  some z54) (fun z55 =>
  some z55) r53
def e7 (a0:Int) (a1:List aI) (p2:Int) (p3:List Int):Option ((Int × (List Int)) ⊕ ((List Int))) :=
 if decide (p2 < (a1.length:Int)) = true then
  (at? a1 p2).bind fun (x4:aI) =>
  if 0 <= p2 ∧ p2.toNat < p3.length then
   (p3[p2.toNat]?).bind fun (x5:Int) =>
   some (.inl (IntKind.wrap .i64 (p2 + 1),p3.set p2.toNat x4.Sum))
  else none
 else
  some (.inr (p3))
def qP (a0:Int) (a1:List aI) (p2:Int) (p3:List Int):Option ((List Int)) :=
 bV (fun (w:Int × (List Int))=>e7 a0 a1 w.1 w.2) (p2,p3)
def fQ (a0:Int) (a1:List aI) (r9:(List Int)) (p10:Int) (p11:List Int):Option ((Int × (List Int)) ⊕ ((List Int))) :=
 if decide (p10 < (a1.length:Int)) = true then
  (rZ a0 a1 p11 r9 p10).bind fun (r12:(List Int)) =>
  some (.inl (IntKind.wrap .i64 (p10 + 1),r12))
 else
  some (.inr (p11))
def rC (a0:Int) (a1:List aI) (r9:(List Int)) (p10:Int) (p11:List Int):Option ((List Int)) :=
 bV (fun (w:Int × (List Int))=>fQ a0 a1 r9 w.1 w.2) (p10,p11)
def pG (a0:Int) (a1:List aI):Option ((List Int) × (List Int) × Int) :=
 (mK a0 a1).bind fun (r1:Bool) =>
 if (!(r1)) = true then
  some ([],[],1)
 else
  if 0 <= (a1.length:Int) ∧ (a1.length:Int) <= (a1.length:Int) ∧ 8 * (a1.length:Int) <= 281474976710656 ∧ (a1.length:Int) <= 9223372036854775807 then
   (qP a0 a1 0 (List.replicate ((a1.length:Int).toNat) (0:Int))).bind fun (r7:(List Int)) =>
   (oZ a0 a1 r7).bind fun (r8:(List Int)) =>
   (gU a0 a1 r8).bind fun (r9:(List Int)) =>
   (rC a0 a1 r9 0 r8).bind fun (r14:(List Int)) =>
   (gU a0 a1 r14).bind fun (r15:(List Int)) =>
   some (r14,r15,0)
  else none
def gM (a0:Int) (a1:List aF) (a2:List Int) (p1:Int) (p2:List aI) (p3:List Int):Option ((Int × (List aI) × (List Int)) ⊕ ((List aI) × (List Int))) :=
 if decide (p1 < (a1.length:Int)) = true then
  (at? a1 p1).bind fun (x4:aF) =>
  (wT x4 a2).bind fun (r5:Bool) =>
  if r5 = true then
   (B3 x4).bind fun (r6:aI) =>
   if (p2.length + 1) * 24 <= 140737488355328 then
    if (p3.length + 1) * 8 <= 140737488355328 then
     some (.inl (IntKind.wrap .i64 (p1 + 1),p2 ++ [r6],p3 ++ [p1]))
    else none
   else none
  else
   some (.inl (IntKind.wrap .i64 (p1 + 1),p2,p3))
 else
  some (.inr ((p2,p3)))
def xB (a0:Int) (a1:List aF) (a2:List Int) (p1:Int) (p2:List aI) (p3:List Int):Option ((List aI) × (List Int)) :=
 bV (fun (w:Int × (List aI) × (List Int))=>gM a0 a1 a2 w.1 w.2.1 w.2.2) (p1,p2,p3)
def iQ (r10:(List Int) × (List Int) × Int) (r9:(List aI) × (List Int)) (p11:Int) (p12:List Int):Option ((Int × (List Int)) ⊕ ((List Int))) :=
 if decide (p11 < (r10.1.length:Int)) = true then
  (at? r10.1 p11).bind fun (x13:Int) =>
  if 0 <= p11 ∧ p11.toNat < r9.2.length then
   (r9.2[p11.toNat]?).bind fun (x14:Int) =>
   if 0 <= x14 ∧ x14.toNat < p12.length then
    (p12[x14.toNat]?).bind fun (x15:Int) =>
    some (.inl (IntKind.wrap .i64 (p11 + 1),p12.set x14.toNat x13))
   else none
  else none
 else
  some (.inr (p12))
def w9 (r10:(List Int) × (List Int) × Int) (r9:(List aI) × (List Int)) (p11:Int) (p12:List Int):Option ((List Int)) :=
 bV (fun (w:Int × (List Int))=>iQ r10 r9 w.1 w.2) (p11,p12)
def nI (a0:Int) (a1:List aF) (a2:List Int):Option ((List Int) × (List Int)) :=
 (xB a0 a1 a2 0 [] []).bind fun (r9:(List aI) × (List Int)) =>
 (pG a0 r9.1).bind fun (r10:(List Int) × (List Int) × Int) =>
 if 0 <= (a1.length:Int) ∧ (a1.length:Int) <= (a1.length:Int) ∧ 8 * (a1.length:Int) <= 281474976710656 ∧ (a1.length:Int) <= 9223372036854775807 then
  (w9 r10 r9 0 (List.replicate ((a1.length:Int).toNat) (0:Int))).bind fun (r17:(List Int)) =>
  some (r17,r10.2.1)
 else none
def iK (a0:Int) (a1:List aF) (a2:List Int):Option ((List Int) × (List Int) × Int) :=
 (lH a0 a1).bind fun (r1:Int) =>
 if (r1 != 0) = true then
  some ([],[],1)
 else
  (tP a2).bind fun (r2:Bool) =>
  if (!(r2)) = true then
   some ([],[],1)
  else
   (nI a0 a1 a2).bind fun (r3:(List Int) × (List Int)) =>
   some (r3.1,r3.2,0)
def gI (a0:List aF) (p1:Int) (x3:aF) (p4:Int) (p5:List Int):Option ((Int × (List Int)) ⊕ ((List Int))) :=
 if decide (p4 < (x3.Rights.length:Int)) = true then
  (at? x3.Rights p4).bind fun (x6:aT) =>
  if (p5.length + 1) * 8 <= 140737488355328 then
   some (.inl (IntKind.wrap .i64 (p4 + 1),p5 ++ [x6.Owner]))
  else none
 else
  some (.inr (p5))
def sH (a0:List aF) (p1:Int) (x3:aF) (p4:Int) (p5:List Int):Option ((List Int)) :=
 bV (fun (w:Int × (List Int))=>gI a0 p1 x3 w.1 w.2) (p4,p5)
def gJ (a0:List aF) (p1:Int) (p2:List Int):Option ((Int × (List Int)) ⊕ ((List Int))) :=
 if decide (p1 < (a0.length:Int)) = true then
  (at? a0 p1).bind fun (x3:aF) =>
  (sH a0 p1 x3 0 p2).bind fun (r8:(List Int)) =>
  some (.inl (IntKind.wrap .i64 (p1 + 1),r8))
 else
  some (.inr (p2))
def sE (a0:List aF) (p1:Int) (p2:List Int):Option ((List Int)) :=
 bV (fun (w:Int × (List Int))=>gJ a0 w.1 w.2) (p1,p2)
def kM (a0:List aF):Option ((List Int)) :=
 (sE a0 0 []).bind fun (r10:(List Int)) =>
 if r10.length < 4611686018427387904 then
  some (GA (EM r10))
 else none
def kR (a0:Int) (a1:List Int):Option (Bool) :=
 (eV a1 a0).bind fun (r1:Bool) =>
 some r1
def a8 (a0 a1:List Int) (p1:Int):Option ((Int) ⊕ (Unit ⊕ Int)) :=
 if decide (p1 < (a0.length:Int)) = true then
  (at? a0 p1).bind fun (x2:Int) =>
  (kR x2 a1).bind fun (r3:Bool) =>
  if r3 = true then
   some (.inr (.inr (p1)))
  else
   some (.inl (IntKind.wrap .i64 (p1 + 1)))
 else
  some (.inr (.inl ()))
def hU (a0 a1:List Int) (p1:Int):Option (Unit ⊕ Int) :=
 bV (fun (w:Int)=>a8 a0 a1 w) p1
def c7 (a0 a1:List Int):Option (Int) :=
 (hU a0 a1 0).bind fun (r5:Unit ⊕ Int)=>Sum.elim (fun z6 =>
 some (-1)) (fun z7 =>
 some z7) r5
def d9 (a0:List Int) (p1 p2:Int):Option ((Int × Int) ⊕ (Int ⊕ Unit)) :=
 if decide (p2 < (a0.length:Int)) = true then
  (at? a0 p2).bind fun (x3:Int) =>
  if decide (x3 < 0) = true then
   some (.inr (.inr (())))
  else
   if decide (x3 > 1099511627776) = true then
    some (.inr (.inr (())))
   else
    some (.inl (IntKind.wrap .i64 (p1 + x3),IntKind.wrap .i64 (p2 + 1)))
 else
  some (.inr (.inl p1))
def wM (a0:List Int) (p1 p2:Int):Option (Int ⊕ Unit) :=
 bV (fun (w:Int × Int)=>d9 a0 w.1 w.2) (p1,p2)
def pH (a0:List Int):Option (Int) :=
 if decide ((a0.length:Int) > 100) = true then
  some 0
 else
  (wM a0 0 0).bind fun (r5:Int ⊕ Unit)=>Sum.elim (fun z6 =>
  some z6) (fun z7 =>
  some 0) r5
def gF (a0:List Int):Option ((List Int)):=if a0.length * 8 <= 140737488355328 then some a0 else none
def pM (a0:Int) (a1:List Int):Option (Bool) :=
 (eV a1 a0).bind fun (r1:Bool) =>
 some (!(r1))
def aZ (a0 a1:List Int) (p1:Int):Option ((Int) ⊕ (Unit ⊕ Int)) :=
 if decide (p1 < (a0.length:Int)) = true then
  (at? a0 p1).bind fun (x2:Int) =>
  (pM x2 a1).bind fun (r3:Bool) =>
  if r3 = true then
   some (.inr (.inr (p1)))
  else
   some (.inl (IntKind.wrap .i64 (p1 + 1)))
 else
  some (.inr (.inl ()))
def gZ (a0 a1:List Int) (p1:Int):Option (Unit ⊕ Int) :=
 bV (fun (w:Int)=>aZ a0 a1 w) p1
def gB (a0 a1:List Int):Option (Int) :=
 (gZ a0 a1 0).bind fun (r5:Unit ⊕ Int)=>Sum.elim (fun z6 =>
 some (-1)) (fun z7 =>
 some z7) r5
def fB (a0 a1:List Int):Option (Bool) :=
 (gB a0 a1).bind fun (r1:Int) =>
 some (decide (r1 ≥ 0))
def uU (a0 a1:List Int):Option (Bool) :=
 (fB a0 a1).bind fun (r1:Bool) =>
 some (!(r1))
def qS (a0 a1:List Int):Option (Bool) :=
 (uU a0 a1).bind fun (r1:Bool) =>
 some r1
def aY (a0:List (List Int)) (a1:List Int) (p1:Int):Option ((Int) ⊕ (Unit ⊕ Int)) :=
 if decide (p1 < (a0.length:Int)) = true then
  (at? a0 p1).bind fun (x2:List Int) =>
  (qS x2 a1).bind fun (r3:Bool) =>
  if r3 = true then
   some (.inr (.inr (p1)))
  else
   some (.inl (IntKind.wrap .i64 (p1 + 1)))
 else
  some (.inr (.inl ()))
def hJ (a0:List (List Int)) (a1:List Int) (p1:Int):Option (Unit ⊕ Int) :=
 bV (fun (w:Int)=>aY a0 a1 w) p1
def gC (a0:List (List Int)) (a1:List Int):Option (Int) :=
 (hJ a0 a1 0).bind fun (r5:Unit ⊕ Int)=>Sum.elim (fun z6 =>
 some (-1)) (fun z7 =>
 some z7) r5
def dK (a0:List (List Int)) (a1:List Int):Option (Bool) :=
 (gC a0 a1).bind fun (r1:Int) =>
 some (decide (r1 ≥ 0))
def fD (a0:Int) (a1:List aF) (a2:List Int) (p5 p6:Int) (p7:List Int):Option ((Int × Int × (List Int)) ⊕ (Int × (List Int))) :=
 if decide (p6 < (p7.length:Int)) = true then
  if 0 <= p6 ∧ p6.toNat < p7.length then
   (p7[p6.toNat]?).bind fun (x8:Int) =>
   (kR x8 a2).bind fun (r9:Bool) =>
   if (!(r9)) = true then
    if 0 <= p5 ∧ p5.toNat < p7.length then
     (p7[p5.toNat]?).bind fun (x10:Int) =>
     some (.inl (IntKind.wrap .i64 (p5 + 1),IntKind.wrap .i64 (p6 + 1),p7.set p5.toNat x8))
    else none
   else
    some (.inl (p5,IntKind.wrap .i64 (p6 + 1),p7))
  else none
 else
  some (.inr ((p5,p7)))
def qL (a0:Int) (a1:List aF) (a2:List Int) (p5 p6:Int) (p7:List Int):Option (Int × (List Int)) :=
 bV (fun (w:Int × Int × (List Int))=>fD a0 a1 a2 w.1 w.2.1 w.2.2) (p5,p6,p7)
def fZ (a0:Int) (a1:List aF) (a2 p14:List Int) (p17:List (List Int)) (p18:Int) (p19:List (List Int)) (p20 r16:Int) (x22:List Int) (p25:Int) (p26:List (List Int)):Option ((Int × (List (List Int))) ⊕ ((List (List Int)))) :=
 if decide (p25 < (p14.length:Int)) = true then
  (gF x22).bind fun (r27:(List Int)) =>
  if (r27.length + 1) * 8 <= 140737488355328 then
   if (p26.length + 1) * 24 <= 140737488355328 then
    some (.inl (IntKind.wrap .i64 (p25 + 1),p26 ++ [r27 ++ [p25]]))
   else none
  else none
 else
  some (.inr (p26))
def u9 (a0:Int) (a1:List aF) (a2 p14:List Int) (p17:List (List Int)) (p18:Int) (p19:List (List Int)) (p20 r16:Int) (x22:List Int) (p25:Int) (p26:List (List Int)):Option ((List (List Int))) :=
 bV (fun (w:Int × (List (List Int)))=>fZ a0 a1 a2 p14 p17 p18 p19 p20 r16 x22 w.1 w.2) (p25,p26)
def qN (a0:Int) (a1:List aF) (a2 p14:List Int) (p17:List (List Int)) (p18:Int) (p19:List (List Int)) (p20:Int) (p21:List (List Int)) (r16:Int) (x22:List Int) (p24:Int):Option ((List (List Int))) :=
 (u9 a0 a1 a2 p14 p17 p18 p19 p20 r16 x22 p24 p21).bind fun (r29:(List (List Int))) =>
 some (r29)
def fX (a0:Int) (a1:List aF) (a2 p14:List Int) (p17:List (List Int)) (p18:Int) (p19:List (List Int)) (r16 p20:Int) (p21:List (List Int)):Option ((Int × (List (List Int))) ⊕ ((List (List Int)))) :=
 if decide (p20 < (p17.length:Int)) = true then
  (at? p17 p20).bind fun (x22:List Int) =>
  if decide ((x22.length:Int) > 0) = true then
   (at? x22 (IntKind.wrap .i64 ((x22.length:Int) - 1))).bind fun (x23:Int) =>
   (qN a0 a1 a2 p14 p17 p18 p19 p20 p21 r16 x22 (IntKind.wrap .i64 (x23 + 1))).bind fun (r31:(List (List Int))) =>
   some (.inl (IntKind.wrap .i64 (p20 + 1),r31))
  else
   (qN a0 a1 a2 p14 p17 p18 p19 p20 p21 r16 x22 0).bind fun (r32:(List (List Int))) =>
   some (.inl (IntKind.wrap .i64 (p20 + 1),r32))
 else
  some (.inr (p21))
def u8 (a0:Int) (a1:List aF) (a2 p14:List Int) (p17:List (List Int)) (p18:Int) (p19:List (List Int)) (r16 p20:Int) (p21:List (List Int)):Option ((List (List Int))) :=
 bV (fun (w:Int × (List (List Int)))=>fX a0 a1 a2 p14 p17 p18 p19 r16 w.1 w.2) (p20,p21)
def gA (a0:Int) (a1:List aF) (a2 p14:List Int) (p18 p35:Int) (p36:List (List Int)) (r16:Int) (r34:(List (List Int))) (x37:List Int) (p38:Int) (p39:List Int):Option ((Int × (List Int)) ⊕ ((List Int))) :=
 if decide (p38 < (x37.length:Int)) = true then
  (at? x37 p38).bind fun (x40:Int) =>
  if 0 <= x40 ∧ x40.toNat < p14.length then
   (p14[x40.toNat]?).bind fun (x41:Int) =>
   if (p39.length + 1) * 8 <= 140737488355328 then
    some (.inl (IntKind.wrap .i64 (p38 + 1),p39 ++ [x41]))
   else none
  else none
 else
  some (.inr (p39))
def u7 (a0:Int) (a1:List aF) (a2 p14:List Int) (p18 p35:Int) (p36:List (List Int)) (r16:Int) (r34:(List (List Int))) (x37:List Int) (p38:Int) (p39:List Int):Option ((List Int)) :=
 bV (fun (w:Int × (List Int))=>gA a0 a1 a2 p14 p18 p35 p36 r16 r34 x37 w.1 w.2) (p38,p39)
def fW (a0:Int) (a1:List aF) (a2 p14:List Int) (p18 r16:Int) (r34:(List (List Int))) (p35:Int) (p36:List (List Int)):Option ((Int × (List (List Int))) ⊕ ((List (List Int)))) :=
 if decide (p35 < (r34.length:Int)) = true then
  if 0 <= p35 ∧ p35.toNat < r34.length then
   (r34[p35.toNat]?).bind fun (x37:List Int) =>
   (u7 a0 a1 a2 p14 p18 p35 p36 r16 r34 x37 0 []).bind fun (r43:(List Int)) =>
   (dK p36 r43).bind fun (r44:Bool) =>
   if r44 = true then
    some (.inl (IntKind.wrap .i64 (p35 + 1),p36))
   else
    (gF a2).bind fun (r45:(List Int)) =>
    if (r45.length + r43.length) * 8 <= 140737488355328 then
     (nI a0 a1 (r45 ++ r43)).bind fun (r46:(List Int) × (List Int)) =>
     (pH r46.1).bind fun (r47:Int) =>
     if decide (r47 > r16) = true then
      if (p36.length + 1) * 24 <= 140737488355328 then
       some (.inl (IntKind.wrap .i64 (p35 + 1),p36 ++ [r43]))
      else none
     else
      some (.inl (IntKind.wrap .i64 (p35 + 1),p36))
    else none
  else none
 else
  some (.inr (p36))
def uQ (a0:Int) (a1:List aF) (a2 p14:List Int) (p18 r16:Int) (r34:(List (List Int))) (p35:Int) (p36:List (List Int)):Option ((List (List Int))) :=
 bV (fun (w:Int × (List (List Int)))=>fW a0 a1 a2 p14 p18 r16 r34 w.1 w.2) (p35,p36)
def fV (a0:Int) (a1:List aF) (a2 p14:List Int) (r16:Int) (p17:List (List Int)) (p18:Int) (p19:List (List Int)):Option (((List (List Int)) × Int × (List (List Int))) ⊕ ((List (List Int)))) :=
 if decide (p18 < (p14.length:Int)) = true then
  (u8 a0 a1 a2 p14 p17 p18 p19 r16 0 []).bind fun (r34:(List (List Int))) =>
  (uQ a0 a1 a2 p14 p18 r16 r34 0 p19).bind fun (r49:(List (List Int))) =>
  some (.inl (r34,IntKind.wrap .i64 (p18 + 1),r49))
 else
  some (.inr (p19))
def vE (a0:Int) (a1:List aF) (a2 p14:List Int) (r16:Int) (p17:List (List Int)) (p18:Int) (p19:List (List Int)):Option ((List (List Int))) :=
 bV (fun (w:(List (List Int)) × Int × (List (List Int)))=>fV a0 a1 a2 p14 r16 w.1 w.2.1 w.2.2) (p17,p18,p19)
def qK (a0:Int) (a1:List aF) (a2 p14:List Int):Option (Int × (List (List Int))) :=
 if decide ((p14.length:Int) > 8) = true then
  some ((6,[]))
 else
  (nI a0 a1 a2).bind fun (r15:(List Int) × (List Int)) =>
  (pH r15.1).bind fun (r16:Int) =>
  (vE a0 a1 a2 p14 r16 [[]] 0 []).bind fun (r51:(List (List Int))) =>
  some ((0,r51))
def iJ (a0:Int) (a1:List aF) (a2:List Int):Option ((List (List Int)) × Int) :=
 (lH a0 a1).bind fun (r1:Int) =>
 if (r1 != 0) = true then
  some ([],1)
 else
  (tP a2).bind fun (r2:Bool) =>
  if (!(r2)) = true then
   some ([],1)
  else
   (kM a1).bind fun (r3:(List Int)) =>
   (c7 r3 a2).bind fun (r4:Int) =>
   if (r4 == (-1)) = true then
    (qK a0 a1 a2 r3).bind fun (r54:Int × (List (List Int))) =>
    some (r54.2,r54.1)
   else
    (qL a0 a1 a2 r4 (IntKind.wrap .i64 (r4 + 1)) r3).bind fun (r13:Int × (List Int)) =>
    if 0 <= r13.1 ∧ r13.1.toNat <= r13.2.length then
     if 0 <= r13.1 ∧ r13.1.toNat <= (AL r13.1.toNat r13.2).length then
      (qK a0 a1 a2 ((AL r13.1.toNat r13.2).take r13.1.toNat)).bind fun (r55:Int × (List (List Int))) =>
      some (r55.2,r55.1)
     else none
    else none
def fG (a0:List aF) (a1:List Int) (a2 a3 p1:Int) (p2:List Int) (p3:List b6):Option ((Int × (List Int) × (List b6)) ⊕ ((List Int) × (List b6))) :=
 if decide (p1 < (a0.length:Int)) = true then
  (at? a0 p1).bind fun (x4:aF) =>
  (at? a1 p1).bind fun (x5:Int) =>
  if decide (x5 > 0) = true then
   if (p2.length + 1) * 8 <= 140737488355328 then
    (at? a1 p1).bind fun (x6:Int) =>
    if (p3.length + 1) * 72 <= 140737488355328 then
     some (.inl (IntKind.wrap .i64 (p1 + 1),p2 ++ [x4.File],p3 ++ [(b6.mk 6 x4.From x4.To x4.Part x4.Sign x6 a2 a3 0)]))
    else none
   else none
  else
   some (.inl (IntKind.wrap .i64 (p1 + 1),p2,p3))
 else
  some (.inr ((p2,p3)))
def pK (a0:List aF) (a1:List Int) (a2 a3 p1:Int) (p2:List Int) (p3:List b6):Option ((List Int) × (List b6)) :=
 bV (fun (w:Int × (List Int) × (List b6))=>fG a0 a1 a2 a3 w.1 w.2.1 w.2.2) (p1,p2,p3)
def m8 (a0:List aF) (a1:List Int) (a2 a3:Int):Option ((List Int) × (List b6)) :=
 if ((a1.length:Int) != (a0.length:Int)) = true then
  some ([],[])
 else
  (pK a0 a1 a2 a3 0 [] []).bind fun (r9:(List Int) × (List b6)) =>
  some (r9.1,r9.2)
def eH (a0 a1:List Int) (p1:Int):Option ((Int) ⊕ (Unit ⊕ Unit)) :=
 if decide (p1 < (a0.length:Int)) = true then
  (at? a0 p1).bind fun (x2:Int) =>
  (at? a1 p1).bind fun (x3:Int) =>
  if (x2 != x3) = true then
   some (.inr (.inr (())))
  else
   some (.inl (IntKind.wrap .i64 (p1 + 1)))
 else
  some (.inr (.inl ()))
def xK (a0 a1:List Int) (p1:Int):Option (Unit ⊕ Unit) :=
 bV (fun (w:Int)=>eH a0 a1 w) p1
def dL (a0 a1:List Int):Option (Bool) :=
 if ((a0.length:Int) != (a1.length:Int)) = true then
  some false
 else
  (xK a0 a1 0).bind fun (r4:Unit ⊕ Unit)=>Sum.elim (fun z5 =>
  some true) (fun z6 =>
  some false) r4
def bM (a0 a1:List Int) (p1:Int):Option ((Int) ⊕ (Unit ⊕ Bool)) :=
 if decide (p1 < (a0.length:Int)) = true then
  (at? a0 p1).bind fun (x2:Int) =>
  (at? a1 p1).bind fun (x3:Int) =>
  if (x2 != x3) = true then
   (at? a0 p1).bind fun (x4:Int) =>
   (at? a1 p1).bind fun (x5:Int) =>
   some (.inr (.inr (decide (x4 < x5))))
  else
   some (.inl (IntKind.wrap .i64 (p1 + 1)))
 else
  some (.inr (.inl ()))
def oJ (a0 a1:List Int) (p1:Int):Option (Unit ⊕ Bool) :=
 bV (fun (w:Int)=>bM a0 a1 w) p1
def gS (a0 a1:List Int):Option (Bool) :=
 if ((a0.length:Int) != (a1.length:Int)) = true then
  some (decide ((a0.length:Int) < (a1.length:Int)))
 else
  (oJ a0 a1 0).bind fun (r7:Unit ⊕ Bool)=>Sum.elim (fun z8 =>
  some false) (fun z9 =>
  some z9) r7
def bZ (a0 a1:List (List Int)) (p1:Int):Option ((Int) ⊕ (Unit ⊕ Unit)) :=
 if decide (p1 < (a0.length:Int)) = true then
  (at? a0 p1).bind fun (x2:List Int) =>
  (at? a1 p1).bind fun (x3:List Int) =>
  (gS x2 x3).bind fun (r4:Bool) =>
  if r4 = true then
   some (.inr (.inr (())))
  else
   (at? a1 p1).bind fun (x5:List Int) =>
   (at? a0 p1).bind fun (x6:List Int) =>
   (gS x5 x6).bind fun (r7:Bool) =>
   if r7 = true then
    some (.inr (.inr (())))
   else
    some (.inl (IntKind.wrap .i64 (p1 + 1)))
 else
  some (.inr (.inl ()))
def qY (a0 a1:List (List Int)) (p1:Int):Option (Unit ⊕ Unit) :=
 bV (fun (w:Int)=>bZ a0 a1 w) p1
def fH (a0 a1:List (List Int)):Option (Bool) :=
 if ((a0.length:Int) != (a1.length:Int)) = true then
  some false
 else
  (qY a0 a1 0).bind fun (r8:Unit ⊕ Unit)=>Sum.elim (fun z9 =>
  some true) (fun z10 =>
  some false) r8
def fY (a0:List aF) (a1 a2:List Int) (p1:Int):Option ((Int) ⊕ (Unit ⊕ Unit)) :=
 if decide (p1 < (a0.length:Int)) = true then
  (at? a0 p1).bind fun (x2:aF) =>
  (at? a1 p1).bind fun (x3:Int) =>
  if (x3 != 0) = true then
   (wT x2 a2).bind fun (r4:Bool) =>
   if (!(r4)) = true then
    some (.inr (.inr (())))
   else
    some (.inl (IntKind.wrap .i64 (p1 + 1)))
  else
   some (.inl (IntKind.wrap .i64 (p1 + 1)))
 else
  some (.inr (.inl ()))
def yP (a0:List aF) (a1 a2:List Int) (p1:Int):Option (Unit ⊕ Unit) :=
 bV (fun (w:Int)=>fY a0 a1 a2 w) p1
def qJ (a0:List aF) (a1 a2:List Int):Option (Bool) :=
 if ((a1.length:Int) != (a0.length:Int)) = true then
  some false
 else
  (yP a0 a1 a2 0).bind fun (r5:Unit ⊕ Unit)=>Sum.elim (fun z6 =>
  some true) (fun z7 =>
  some false) r5
def lL (p12:Bool) (r1:(List aF)) (r3:(List Int) × (List Int) × Int) (r8:(List Int) × (List b6)) (p15:Bool):Option (Bool) :=
 if p12 = true then
  if p15 = true then
   (at? r8.2 1).bind fun (x16:b6) =>
   if ((x16.Kind == 6) && ((x16.Who == 1) && ((x16.To == 0) && ((x16.Part == 0) && ((x16.At == 0) && ((x16.Sum == 2) && ((x16.Day == 9) && ((x16.City == 0) && (x16.Form == 0))))))))) = true then
    (kM r1).bind fun (r17:(List Int)) =>
    (dL r17 [1,7]).bind fun (r18:Bool) =>
    if r18 = true then
     (qJ r1 r3.1 [1]).bind fun (r19:Bool) =>
     if r19 = true then
      (qJ r1 r3.1 [7]).bind fun (r20:Bool) =>
      if (!(r20)) = true then
       (lH 3 r1).bind fun (r21:Int) =>
       if (r21 == 0) = true then
        (lH 2 r1).bind fun (r22:Int) =>
        some (r22 == 1)
       else
        some (false)
      else
       some (false)
     else
      some (false)
    else
     some (false)
   else
    some (false)
  else
   some (false)
 else
  some (false)
def mD (r1:(List aF)) (r3:(List Int) × (List Int) × Int) (r5 r6 r7:(List (List Int)) × Int) (r8:(List Int) × (List b6)) (p12:Bool):Option (Bool) :=
 (fH r5.1 [[1],[7]]).bind fun (r13:Bool) =>
 if r13 = true then
  (fH r6.1 [[7]]).bind fun (r14:Bool) =>
  if r14 = true then
   (lL p12 r1 r3 r8 ((r7.1.length:Int) == 0)).bind fun (r24:Bool) =>
   some (r24)
  else
   (lL p12 r1 r3 r8 false).bind fun (r25:Bool) =>
   some (r25)
 else
  (lL p12 r1 r3 r8 false).bind fun (r26:Bool) =>
  some (r26)
def j5:Option (Bool) :=
 (rF).bind fun (r1:(List aF)) =>
 (iK 3 r1 []).bind fun (r2:(List Int) × (List Int) × Int) =>
 (iK 3 r1 [1]).bind fun (r3:(List Int) × (List Int) × Int) =>
 (iK 3 r1 [1,7]).bind fun (r4:(List Int) × (List Int) × Int) =>
 (iJ 3 r1 []).bind fun (r5:(List (List Int)) × Int) =>
 (iJ 3 r1 [1]).bind fun (r6:(List (List Int)) × Int) =>
 (iJ 3 r1 [1,7]).bind fun (r7:(List (List Int)) × Int) =>
 (m8 r1 r3.1 9 0).bind fun (r8:(List Int) × (List b6)) =>
 if (r2.2.2 != 0) = true then
  some false
 else
  if (r3.2.2 != 0) = true then
   some false
  else
   if (r4.2.2 != 0) = true then
    some false
   else
    if (r5.2 != 0) = true then
     some false
    else
     if (r6.2 != 0) = true then
      some false
     else
      if (r7.2 != 0) = true then
       some false
      else
       if ((r8.1.length:Int) != 2) = true then
        some false
       else
        if ((r8.2.length:Int) != 2) = true then
         some false
        else
         (dL r2.1 [0,0,0,0]).bind fun (r9:Bool) =>
         if r9 = true then
          (dL r3.1 [2,0,0,2]).bind fun (r10:Bool) =>
          if r10 = true then
           (dL r4.1 [5,5,5,0]).bind fun (r11:Bool) =>
           (mD r1 r3 r5 r6 r7 r8 r11).bind fun (r28:Bool) =>
           some r28
          else
           (mD r1 r3 r5 r6 r7 r8 false).bind fun (r29:Bool) =>
           some r29
         else
          (mD r1 r3 r5 r6 r7 r8 false).bind fun (r30:Bool) =>
          some r30
def dG (a0:List aF) (p1:Int) (p2:List aI):Option ((Int × (List aI)) ⊕ ((List aI))) :=
 if decide (p1 < (a0.length:Int)) = true then
  (at? a0 p1).bind fun (x3:aF) =>
  (at? a0 p1).bind fun (x4:aF) =>
  (at? a0 p1).bind fun (x5:aF) =>
  if (p2.length + 1) * 24 <= 140737488355328 then
   some (.inl (IntKind.wrap .i64 (p1 + 1),p2 ++ [(aI.mk x3.From x4.To x5.Sum)]))
  else none
 else
  some (.inr (p2))
def rJ (a0:List aF) (p1:Int) (p2:List aI):Option ((List aI)) :=
 bV (fun (w:Int × (List aI))=>dG a0 w.1 w.2) (p1,p2)
def jI (a0:List aF):Option ((List aI)) :=
 (rJ a0 0 []).bind fun (r7:(List aI)) =>
 some r7
def bY (a0:Int) (a1:List aI) (p1:Int):Option ((Int) ⊕ (Unit ⊕ Unit)) :=
 if decide (p1 < (a1.length:Int)) = true then
  if decide (p1 < 20) = true then
   (at? a1 p1).bind fun (x2:aI) =>
   if decide (x2.Sum > 12) = true then
    (at? a1 p1).bind fun (x3:aI) =>
    if decide (x3.Sum <= 1099511627776) = true then
     some (.inr (.inr (())))
    else
     some (.inl (IntKind.wrap .i64 (p1 + 1)))
   else
    some (.inl (IntKind.wrap .i64 (p1 + 1)))
  else
   some (.inr (.inl ()))
 else
  some (.inr (.inl ()))
def n8 (a0:Int) (a1:List aI) (p1:Int):Option (Unit ⊕ Unit) :=
 bV (fun (w:Int)=>bY a0 a1 w) p1
def pA (a0:Int) (a1:List aI):Option (Bool) :=
 (n8 a0 a1 0).bind fun (r4:Unit ⊕ Unit)=>Sum.elim (fun z5 =>
 if decide (a0 <= 6) = true then
   if decide ((a1.length:Int) <= 9) = true then
    some true
   else
    if decide ((a1.length:Int) > 100) = true then
     some (decide ((a1.length:Int) < 200))
    else
     some false
  else
   if decide (a0 > 40) = true then
    if decide ((a1.length:Int) <= 9) = true then
     some true
    else
     if decide ((a1.length:Int) > 100) = true then
      some (decide ((a1.length:Int) < 200))
     else
      some false
   else
    some false) (fun z6 =>
 some false) r4
def eQ (a0:List Int) (a1 p1:Int):Option ((Int) ⊕ (Unit ⊕ Unit)) :=
 if decide (p1 < (a0.length:Int)) = true then
  (at? a0 p1).bind fun (x2:Int) =>
  if (x2 == a1) = true then
   some (.inr (.inr (())))
  else
   some (.inl (IntKind.wrap .i64 (p1 + 1)))
 else
  some (.inr (.inl ()))
def sG (a0:List Int) (a1 p1:Int):Option (Unit ⊕ Unit) :=
 bV (fun (w:Int)=>eQ a0 a1 w) p1
def kE (a0:List Int) (a1:Int):Option (Bool) :=
 (sG a0 a1 0).bind fun (r3:Unit ⊕ Unit)=>Sum.elim (fun z4 =>
 some false) (fun z5 =>
 some true) r3
def jG (a0:List Int) (a1 p3:Int) (p6:Bool) (p7:List Int):Option ((List Int)) :=
 (at? a0 p3).bind fun (x8:Int) =>
 if (p7.length + 1) * 8 <= 140737488355328 then
  some (p7 ++ [x8])
 else none
def bK (a0:List Int) (a1:Int) (p2:Bool) (p3:Int) (p4:List Int):Option ((Bool × Int × (List Int)) ⊕ (Bool × (List Int))) :=
 if decide (p3 < (a0.length:Int)) = true then
  if (!(p2)) = true then
   (at? a0 p3).bind fun (x5:Int) =>
   if decide (a1 < x5) = true then
    if (p4.length + 1) * 8 <= 140737488355328 then
     (jG a0 a1 p3 true (p4 ++ [a1])).bind fun (r10:(List Int)) =>
     some (.inl (true,IntKind.wrap .i64 (p3 + 1),r10))
    else none
   else
    (jG a0 a1 p3 p2 p4).bind fun (r11:(List Int)) =>
    some (.inl (p2,IntKind.wrap .i64 (p3 + 1),r11))
  else
   (jG a0 a1 p3 p2 p4).bind fun (r12:(List Int)) =>
   some (.inl (p2,IntKind.wrap .i64 (p3 + 1),r12))
 else
  some (.inr ((p2,p4)))
def sK (a0:List Int) (a1:Int) (p2:Bool) (p3:Int) (p4:List Int):Option (Bool × (List Int)) :=
 bV (fun (w:Bool × Int × (List Int))=>bK a0 a1 w.1 w.2.1 w.2.2) (p2,p3,p4)
def lT (a0:List Int) (a1:Int):Option ((List Int)) :=
 (kE a0 a1).bind fun (r1:Bool) =>
 if r1 = true then
  some a0
 else
  (sK a0 a1 false 0 []).bind fun (r15:Bool × (List Int)) =>
  if (!(r15.1)) = true then
   if (r15.2.length + 1) * 8 <= 140737488355328 then
    some (r15.2 ++ [a1])
   else none
  else
   some r15.2
def dH (a0:List aF) (p2:Int) (p3:List Int) (p4:Int):Option (((List Int) × Int) ⊕ ((List Int))) :=
 (at? a0 p2).bind fun (x5:aF) =>
 if decide (p4 < (x5.Rights.length:Int)) = true then
  (at? a0 p2).bind fun (x6:aF) =>
  (at? x6.Rights p4).bind fun (x7:aT) =>
  (lT p3 x7.Owner).bind fun (r8:(List Int)) =>
  some (.inl (r8,IntKind.wrap .i64 (p4 + 1)))
 else
  some (.inr (p3))
def kT (a0:List aF) (p2:Int) (p3:List Int) (p4:Int):Option ((List Int)) :=
 bV (fun (w:(List Int) × Int)=>dH a0 p2 w.1 w.2) (p3,p4)
def b8 (a0:List aF) (p1:List Int) (p2:Int):Option (((List Int) × Int) ⊕ ((List Int))) :=
 if decide (p2 < (a0.length:Int)) = true then
  (kT a0 p2 p1 0).bind fun (r10:(List Int)) =>
  some (.inl (r10,IntKind.wrap .i64 (p2 + 1)))
 else
  some (.inr (p1))
def oV (a0:List aF) (p1:List Int) (p2:Int):Option ((List Int)) :=
 bV (fun (w:(List Int) × Int)=>b8 a0 w.1 w.2) (p1,p2)
def gP (a0:List aF):Option ((List Int)) :=
 (oV a0 [] 0).bind fun (r12:(List Int)) =>
 some r12
def dV (a0:Int) (a1:List aF) (p1:Int):Option ((Int) ⊕ (Unit ⊕ Unit)) :=
 if decide (p1 < (a1.length:Int)) = true then
  (at? a1 p1).bind fun (x2:aF) =>
  if decide ((x2.Rights.length:Int) > 12) = true then
   some (.inr (.inr (())))
  else
   some (.inl (IntKind.wrap .i64 (p1 + 1)))
 else
  some (.inr (.inl ()))
def sJ (a0:Int) (a1:List aF) (p1:Int):Option (Unit ⊕ Unit) :=
 bV (fun (w:Int)=>dV a0 a1 w) p1
def oI (a0:Int) (a1:List aF):Option (Bool) :=
 (sJ a0 a1 0).bind fun (r3:Unit ⊕ Unit)=>Sum.elim (fun z4 =>
 if decide ((a1.length:Int) <= 9) = true then
   (jI a1).bind fun (r6:(List aI)) =>
   (pA a0 r6).bind fun (r7:Bool) =>
   if r7 = true then
    (gP a1).bind fun (r8:(List Int)) =>
    some (decide ((r8.length:Int) <= 4))
   else
    some false
  else
   some false) (fun z5 =>
 some false) r3
def dY (a0:Int) (a1:List aI) (p1:Int):Option ((Int) ⊕ (Unit ⊕ Unit)) :=
 if decide (p1 < (a1.length:Int)) = true then
  if decide (p1 <= 100) = true then
   (at? a1 p1).bind fun (x2:aI) =>
   if decide (x2.From < 0) = true then
    some (.inr (.inr (())))
   else
    if decide (x2.To < 0) = true then
     some (.inr (.inr (())))
    else
     if decide (x2.From ≥ a0) = true then
      some (.inr (.inr (())))
     else
      if decide (x2.To ≥ a0) = true then
       some (.inr (.inr (())))
      else
       if (x2.From == x2.To) = true then
        some (.inr (.inr (())))
       else
        if decide (x2.Sum < 1) = true then
         some (.inr (.inr (())))
        else
         if decide (x2.Sum > 1099511627776) = true then
          some (.inr (.inr (())))
         else
          some (.inl (IntKind.wrap .i64 (p1 + 1)))
  else
   some (.inr (.inl ()))
 else
  some (.inr (.inl ()))
def lX (a0:Int) (a1:List aI) (p1:Int):Option (Unit ⊕ Unit) :=
 bV (fun (w:Int)=>dY a0 a1 w) p1
def jY (a0:Int) (a1:List aI):Option (Bool) :=
 (lX a0 a1 0).bind fun (r3:Unit ⊕ Unit)=>Sum.elim (fun z4 =>
 if decide (a0 ≥ 0) = true then
   if decide (a0 <= 40) = true then
    some (decide ((a1.length:Int) <= 100))
   else
    some false
  else
   some false) (fun z5 =>
 some false) r3
def dR (a1:List aF) (p3:Int) (x4:aF) (p5:Int):Option ((Int) ⊕ (Unit ⊕ Unit)) :=
 if decide (p5 < (x4.Rights.length:Int)) = true then
  (at? x4.Rights p5).bind fun (x6:aT) =>
  if decide (x6.Kind < 0) = true then
   some (.inr (.inr (())))
  else
   if decide (x6.Kind ≥ 4) = true then
    some (.inr (.inr (())))
   else
    if decide (x6.Owner < 0) = true then
     some (.inr (.inr (())))
    else
     if decide (x6.Owner ≥ 200) = true then
      some (.inr (.inr (())))
     else
      some (.inl (IntKind.wrap .i64 (p5 + 1)))
 else
  some (.inr (.inl ()))
def lI (a1:List aF) (p3:Int) (x4:aF) (p5:Int):Option (Unit ⊕ Unit) :=
 bV (fun (w:Int)=>dR a1 p3 x4 w) p5
def dX (a1:List aF) (p3:Int):Option ((Int) ⊕ (Unit ⊕ Unit)) :=
 if decide (p3 < (a1.length:Int)) = true then
  (at? a1 p3).bind fun (x4:aF) =>
  if decide (x4.File < 0) = true then
   some (.inr (.inr (())))
  else
   if decide (x4.File ≥ 50) = true then
    some (.inr (.inr (())))
   else
    if decide (x4.Part < 0) = true then
     some (.inr (.inr (())))
    else
     if decide (x4.Part ≥ 4) = true then
      some (.inr (.inr (())))
     else
      if decide (x4.Sign < 0) = true then
       some (.inr (.inr (())))
      else
       if decide (x4.Sign ≥ 40) = true then
        some (.inr (.inr (())))
       else
        if decide ((x4.Rights.length:Int) > 8) = true then
         some (.inr (.inr (())))
        else
         (lI a1 p3 x4 0).bind fun (r7:Unit ⊕ Unit)=>Sum.elim (fun z8 =>
         some (.inl (IntKind.wrap .i64 (p3 + 1)))) (fun z9 =>
         some (.inr (.inr (())))) r7
 else
  some (.inr (.inl ()))
def lP (a1:List aF) (p3:Int):Option (Unit ⊕ Unit) :=
 bV (fun (w:Int)=>dX a1 w) p3
def iL (a0:Int) (a1:List aF):Option (Int) :=
 (jI a1).bind fun (r1:(List aI)) =>
 (jY a0 r1).bind fun (r2:Bool) =>
 if (!(r2)) = true then
  some 1
 else
  (lP a1 0).bind fun (r10:Unit ⊕ Unit)=>Sum.elim (fun z11 =>
  some 0) (fun z12 =>
  some 1) r10
def dZ (a0:List Int) (p1:Int):Option ((Int) ⊕ (Unit ⊕ Unit)) :=
 if decide (p1 < (a0.length:Int)) = true then
  (at? a0 p1).bind fun (x2:Int) =>
  if decide (x2 < 0) = true then
   some (.inr (.inr (())))
  else
   (at? a0 p1).bind fun (x3:Int) =>
   if decide (x3 ≥ 200) = true then
    some (.inr (.inr (())))
   else
    if decide (p1 > 0) = true then
     (at? a0 (IntKind.wrap .i64 (p1 - 1))).bind fun (x4:Int) =>
     (at? a0 p1).bind fun (x5:Int) =>
     if decide (x4 ≥ x5) = true then
      some (.inr (.inr (())))
     else
      some (.inl (IntKind.wrap .i64 (p1 + 1)))
    else
     some (.inl (IntKind.wrap .i64 (p1 + 1)))
 else
  some (.inr (.inl ()))
def qH (a0:List Int) (p1:Int):Option (Unit ⊕ Unit) :=
 bV (fun (w:Int)=>dZ a0 w) p1
def j0 (a0:List Int):Option (Bool) :=
 (qH a0 0).bind fun (r6:Unit ⊕ Unit)=>Sum.elim (fun z7 =>
 some true) (fun z8 =>
 some false) r6
def eJ (a0:aF) (a1:List Int) (p1:Int):Option ((Int) ⊕ (Unit ⊕ Unit)) :=
 if decide (p1 < (a0.Rights.length:Int)) = true then
  (at? a0.Rights p1).bind fun (x2:aT) =>
  (kE a1 x2.Owner).bind fun (r3:Bool) =>
  if (!(r3)) = true then
   some (.inr (.inr (())))
  else
   some (.inl (IntKind.wrap .i64 (p1 + 1)))
 else
  some (.inr (.inl ()))
def rE (a0:aF) (a1:List Int) (p1:Int):Option (Unit ⊕ Unit) :=
 bV (fun (w:Int)=>eJ a0 a1 w) p1
def jD (a0:aF) (a1:List Int):Option (Bool) :=
 (rE a0 a1 0).bind fun (r4:Unit ⊕ Unit)=>Sum.elim (fun z5 =>
 some true) (fun z6 =>
 some false) r4
def jQ (a0:List aI) (a1:List Int) (p1:Int) (x3:aI) (p5:List aD):Option ((List aD)) :=
 (at? a1 p1).bind fun (x6:Int) =>
 if decide (x6 > 0) = true then
  if (p5.length + 1) * 32 <= 140737488355328 then
   some (p5 ++ [(aD.mk p1 x3.To x3.From 1)])
  else none
 else
  some (p5)
def cP (a0:List aI) (a1:List Int) (p1:Int) (p2:List aD):Option ((Int × (List aD)) ⊕ ((List aD))) :=
 if decide (p1 < (a0.length:Int)) = true then
  (at? a0 p1).bind fun (x3:aI) =>
  (at? a1 p1).bind fun (x4:Int) =>
  if decide (x4 < x3.Sum) = true then
   if (p2.length + 1) * 32 <= 140737488355328 then
    (jQ a0 a1 p1 x3 (p2 ++ [(aD.mk p1 x3.From x3.To (-1))])).bind fun (r8:(List aD)) =>
    some (.inl (IntKind.wrap .i64 (p1 + 1),r8))
   else none
  else
   (jQ a0 a1 p1 x3 p2).bind fun (r9:(List aD)) =>
   some (.inl (IntKind.wrap .i64 (p1 + 1),r9))
 else
  some (.inr (p2))
def pU (a0:List aI) (a1:List Int) (p1:Int) (p2:List aD):Option ((List aD)) :=
 bV (fun (w:Int × (List aD))=>cP a0 a1 w.1 w.2) (p1,p2)
def gH (a0:List aI) (a1:List Int) (a2:Int):Option ((List aD)) :=
 (pU a0 a1 a2 []).bind fun (r11:(List aD)) =>
 some r11
def dP (a0:Int) (a1:List aD) (a2 a3 p1:Int) (p2:List Int):Option ((Int × (List Int)) ⊕ ((List Int))) :=
 if decide (p1 < a0) = true then
  if 0 <= p1 ∧ p1.toNat < p2.length then
   (p2[p1.toNat]?).bind fun (x3:Int) =>
   some (.inl (IntKind.wrap .i64 (p1 + 1),p2.set p1.toNat 1099511627776))
  else none
 else
  some (.inr (p2))
def oD (a0:Int) (a1:List aD) (a2 a3 p1:Int) (p2:List Int):Option ((List Int)) :=
 bV (fun (w:Int × (List Int))=>dP a0 a1 a2 a3 w.1 w.2) (p1,p2)
def kY (a0:Int) (a1:List aD) (a3 p10:Int) (p11:List Int) (p12:List (List Int)) (p7 x14:Int) (x15:aD):Option ((List Int) × (List (List Int))) :=
 (at? a1 p10).bind fun (x27:aD) =>
 if 0 <= x27.To ∧ x27.To.toNat < p11.length then
  (p11[x27.To.toNat]?).bind fun (x28:Int) =>
  (at? a1 p10).bind fun (x29:aD) =>
  (at? a1 p10).bind fun (x30:aD) =>
  if 0 <= x30.From ∧ x30.From.toNat < p12.length then
   (p12[x30.From.toNat]?).bind fun (x31:List Int) =>
   if (0 + x31.length) * 8 <= 140737488355328 then
    if ((([]:List Int) ++ x31).length + 1) * 8 <= 140737488355328 then
     if 0 <= x29.To ∧ x29.To.toNat < p12.length then
      (p12[x29.To.toNat]?).bind fun (x32:List Int) =>
      some ((p11.set x27.To.toNat (IntKind.wrap .i64 (x14 + x15.Cost)),p12.set x29.To.toNat ((([]:List Int) ++ x31) ++ [p10])))
     else none
    else none
   else none
  else none
 else none
def kW (a0:Int) (a1:List aD) (a3 p10:Int) (p11:List Int) (p12:List (List Int)) (p7 x14:Int) (x15:aD) (p22:Bool):Option ((List Int) × (List (List Int))) :=
 (at? a1 p10).bind fun (x23:aD) =>
 if 0 <= x23.From ∧ x23.From.toNat < p11.length then
  (p11[x23.From.toNat]?).bind fun (x24:Int) =>
  if decide (x24 < 1099511627776) = true then
   (at? a1 p10).bind fun (x25:aD) =>
   if 0 <= x25.To ∧ x25.To.toNat < p11.length then
    (p11[x25.To.toNat]?).bind fun (x26:Int) =>
    if decide ((IntKind.wrap .i64 (x14 + x15.Cost)) < x26) = true then
     (kY a0 a1 a3 p10 p11 p12 p7 x14 x15).bind fun (r35:(List Int) × (List (List Int))) =>
     some ((r35.1,r35.2))
    else
     if p22 = true then
      (kY a0 a1 a3 p10 p11 p12 p7 x14 x15).bind fun (r36:(List Int) × (List (List Int))) =>
      some ((r36.1,r36.2))
     else
      some ((p11,p12))
   else none
  else
   some ((p11,p12))
 else none
def dO (a0:Int) (a1:List aD) (a3 p7 p10:Int) (p11:List Int) (p12:List (List Int)):Option ((Int × (List Int) × (List (List Int))) ⊕ ((List Int) × (List (List Int)))) :=
 if decide (p10 < (a1.length:Int)) = true then
  (at? a1 p10).bind fun (x13:aD) =>
  if 0 <= x13.From ∧ x13.From.toNat < p11.length then
   (p11[x13.From.toNat]?).bind fun (x14:Int) =>
   (at? a1 p10).bind fun (x15:aD) =>
   (at? a1 p10).bind fun (x16:aD) =>
   if 0 <= x16.To ∧ x16.To.toNat < p11.length then
    (p11[x16.To.toNat]?).bind fun (x17:Int) =>
    if ((IntKind.wrap .i64 (x14 + x15.Cost)) == x17) = true then
     (at? a1 p10).bind fun (x18:aD) =>
     if 0 <= x18.From ∧ x18.From.toNat < p12.length then
      (p12[x18.From.toNat]?).bind fun (x19:List Int) =>
      (at? a1 p10).bind fun (x20:aD) =>
      if 0 <= x20.To ∧ x20.To.toNat < p12.length then
       (p12[x20.To.toNat]?).bind fun (x21:List Int) =>
       (kW a0 a1 a3 p10 p11 p12 p7 x14 x15 (decide ((IntKind.wrap .i64 ((x19.length:Int) + 1)) < (x21.length:Int)))).bind fun (r39:(List Int) × (List (List Int))) =>
       some (.inl (IntKind.wrap .i64 (p10 + 1),r39.1,r39.2))
      else none
     else none
    else
     (kW a0 a1 a3 p10 p11 p12 p7 x14 x15 false).bind fun (r40:(List Int) × (List (List Int))) =>
     some (.inl (IntKind.wrap .i64 (p10 + 1),r40.1,r40.2))
   else none
  else none
 else
  some (.inr ((p11,p12)))
def oA (a0:Int) (a1:List aD) (a3 p7 p10:Int) (p11:List Int) (p12:List (List Int)):Option ((List Int) × (List (List Int))) :=
 bV (fun (w:Int × (List Int) × (List (List Int)))=>dO a0 a1 a3 p7 w.1 w.2.1 w.2.2) (p10,p11,p12)
def dW (a0:Int) (a1:List aD) (a3 p7:Int) (p8:List Int) (p9:List (List Int)):Option ((Int × (List Int) × (List (List Int))) ⊕ ((List Int) × (List (List Int)))) :=
 if decide (p7 < a0) = true then
  (oA a0 a1 a3 p7 0 p8 p9).bind fun (r43:(List Int) × (List (List Int))) =>
  some (.inl (IntKind.wrap .i64 (p7 + 1),r43.1,r43.2))
 else
  some (.inr ((p8,p9)))
def oE (a0:Int) (a1:List aD) (a3 p7:Int) (p8:List Int) (p9:List (List Int)):Option ((List Int) × (List (List Int))) :=
 bV (fun (w:Int × (List Int) × (List (List Int)))=>dW a0 a1 a3 w.1 w.2.1 w.2.2) (p7,p8,p9)
def kG (a0:Int) (a1:List aD) (a2 a3:Int):Option (Int × (List Int)) :=
 if 0 <= a0 ∧ a0 <= a0 ∧ 8 * a0 <= 281474976710656 ∧ a0 <= 9223372036854775807 then
  if 0 <= a0 ∧ a0 <= a0 ∧ 24 * a0 <= 281474976710656 ∧ a0 <= 9223372036854775807 then
   (oD a0 a1 a2 a3 0 (List.replicate a0.toNat (0:Int))).bind fun (r5:(List Int)) =>
   if 0 <= a2 ∧ a2.toNat < r5.length then
    (r5[a2.toNat]?).bind fun (x6:Int) =>
    (oE a0 a1 a3 0 (r5.set a2.toNat 0) (List.replicate a0.toNat ([]:List Int))).bind fun (r46:(List Int) × (List (List Int))) =>
    if 0 <= a3 ∧ a3.toNat < r46.1.length then
     (r46.1[a3.toNat]?).bind fun (x47:Int) =>
     if 0 <= a3 ∧ a3.toNat < r46.2.length then
      (r46.2[a3.toNat]?).bind fun (x48:List Int) =>
      some (x47,x48)
     else none
    else none
   else none
  else none
 else none
def cJ (a0:List aI) (a1:List Int) (a2:List aD) (a3:List Int) (p1 p2:Int):Option ((Int × Int) ⊕ (Int)) :=
 if decide (p2 < (a3.length:Int)) = true then
  (at? a3 p2).bind fun (x3:Int) =>
  (at? a2 x3).bind fun (x4:aD) =>
  (at? a1 x4.Due).bind fun (x5:Int) =>
  if decide (x4.Cost < 0) = true then
   (at? a0 x4.Due).bind fun (x6:aI) =>
   (at? a1 x4.Due).bind fun (x7:Int) =>
   some (.inl ((if (IntKind.wrap .i64 (x6.Sum - x7)) < p1 then IntKind.wrap .i64 (x6.Sum - x7) else p1),IntKind.wrap .i64 (p2 + 1)))
  else
   some (.inl ((if x5 < p1 then x5 else p1),IntKind.wrap .i64 (p2 + 1)))
 else
  some (.inr (p1))
def qC (a0:List aI) (a1:List Int) (a2:List aD) (a3:List Int) (p1 p2:Int):Option (Int) :=
 bV (fun (w:Int × Int)=>cJ a0 a1 a2 a3 w.1 w.2) (p1,p2)
def iM (a0:List aI) (a1:List Int) (a2:List aD) (a3:List Int) (a4:Int):Option (Int) :=
 (qC a0 a1 a2 a3 a4 0).bind fun (r9:Int) =>
 some r9
def dF (a0:List aD) (a1:List Int) (a3 p1:Int) (p2:List Int):Option ((Int × (List Int)) ⊕ ((List Int))) :=
 if decide (p1 < (a1.length:Int)) = true then
  (at? a1 p1).bind fun (x3:Int) =>
  (at? a0 x3).bind fun (x4:aD) =>
  (at? a1 p1).bind fun (x5:Int) =>
  (at? a0 x5).bind fun (x6:aD) =>
  if 0 <= x6.Due ∧ x6.Due.toNat < p2.length then
   (p2[x6.Due.toNat]?).bind fun (x7:Int) =>
   (at? a1 p1).bind fun (x8:Int) =>
   (at? a0 x8).bind fun (x9:aD) =>
   if 0 <= x4.Due ∧ x4.Due.toNat < p2.length then
    (p2[x4.Due.toNat]?).bind fun (x10:Int) =>
    some (.inl (IntKind.wrap .i64 (p1 + 1),p2.set x4.Due.toNat (IntKind.wrap .i64 (x7 - (IntKind.wrap .i64 (a3 * x9.Cost))))))
   else none
  else none
 else
  some (.inr (p2))
def rG (a0:List aD) (a1:List Int) (a3 p1:Int) (p2:List Int):Option ((List Int)) :=
 bV (fun (w:Int × (List Int))=>dF a0 a1 a3 w.1 w.2) (p1,p2)
def iA (a0:List aD) (a1 a2:List Int) (a3:Int):Option ((List Int)) :=
 if (0 + a2.length) * 8 <= 140737488355328 then
  (rG a0 a1 a3 0 (([]:List Int) ++ a2)).bind fun (r12:(List Int)) =>
  some r12
 else none
def dA (a0:Int) (a1:List aI) (a3:Int) (p1:List Int) (r4:(List aD)) (p5:Int) (p6:List aD):Option ((Int × (List aD)) ⊕ ((List aD))) :=
 if decide (p5 < (r4.length:Int)) = true then
  (at? r4 p5).bind fun (x7:aD) =>
  if (x7.Due != a3) = true then
   (at? r4 p5).bind fun (x8:aD) =>
   if (p6.length + 1) * 32 <= 140737488355328 then
    some (.inl (IntKind.wrap .i64 (p5 + 1),p6 ++ [x8]))
   else none
  else
   some (.inl (IntKind.wrap .i64 (p5 + 1),p6))
 else
  some (.inr (p6))
def kH (a0:Int) (a1:List aI) (a3:Int) (p1:List Int) (r4:(List aD)) (p5:Int) (p6:List aD):Option ((List aD)) :=
 bV (fun (w:Int × (List aD))=>dA a0 a1 a3 p1 r4 w.1 w.2) (p5,p6)
def b9 (a0:Int) (a1:List aI) (a3:Int) (p1:List Int):Option (((List Int)) ⊕ (((List Int)) ⊕ ((List Int)))) :=
 (at? p1 a3).bind fun (x2:Int) =>
 (at? a1 a3).bind fun (x3:aI) =>
 if decide (x2 < x3.Sum) = true then
  if HS a1.length 0 (IntKind.wrap .i64 (a3 + 1)) then
   (gH (SD a1 0 (IntKind.wrap .i64 (a3 + 1))) p1 0).bind fun (r4:(List aD)) =>
   (kH a0 a1 a3 p1 r4 0 []).bind fun (r10:(List aD)) =>
   (at? a1 a3).bind fun (x11:aI) =>
   (at? a1 a3).bind fun (x12:aI) =>
   (kG a0 r10 x11.To x12.From).bind fun (r13:Int × (List Int)) =>
   if decide ((IntKind.wrap .i64 (r13.1 - 1)) ≥ 0) = true then
    some (.inr (.inr (p1)))
   else
    (at? a1 a3).bind fun (x14:aI) =>
    (at? p1 a3).bind fun (x15:Int) =>
    (iM a1 p1 r10 r13.2 (IntKind.wrap .i64 (x14.Sum - x15))).bind fun (r16:Int) =>
    (iA r10 r13.2 p1 r16).bind fun (r17:(List Int)) =>
    if 0 <= a3 ∧ a3.toNat < r17.length then
     (r17[a3.toNat]?).bind fun (x18:Int) =>
     if 0 <= a3 ∧ a3.toNat < r17.length then
      (r17[a3.toNat]?).bind fun (x19:Int) =>
      some (.inl (r17.set a3.toNat (IntKind.wrap .i64 (x18 + r16))))
     else none
    else none
  else none
 else
  some (.inr (.inl p1))
def rH (a0:Int) (a1:List aI) (a3:Int) (p1:List Int):Option (((List Int)) ⊕ ((List Int))) :=
 bV (fun (w:(List Int))=>b9 a0 a1 a3 w) p1
def nC (a0:Int) (a1:List aI) (a2:List Int) (a3:Int):Option ((List Int)) :=
 (rH a0 a1 a3 a2).bind fun (r22:((List Int)) ⊕ ((List Int)))=>Sum.elim (fun z23 =>
 some z23) (fun z24 =>
 some z24) r22
def bX (a0:Int) (a1:List aI) (a3:Int) (p1:List Int):Option (((List Int)) ⊕ (((List Int)) ⊕ ((List Int)))) :=
 (at? p1 a3).bind fun (x2:Int) =>
 (at? a1 a3).bind fun (x3:aI) =>
 if decide (x2 < x3.Sum) = true then
  (gH a1 p1 (IntKind.wrap .i64 (a3 + 1))).bind fun (r4:(List aD)) =>
  (at? a1 a3).bind fun (x5:aI) =>
  (at? a1 a3).bind fun (x6:aI) =>
  (kG a0 r4 x5.To x6.From).bind fun (r7:Int × (List Int)) =>
  if decide (r7.1 > 1) = true then
   some (.inr (.inr (p1)))
  else
   (at? a1 a3).bind fun (x8:aI) =>
   (at? p1 a3).bind fun (x9:Int) =>
   (iM a1 p1 r4 r7.2 (IntKind.wrap .i64 (x8.Sum - x9))).bind fun (r10:Int) =>
   (iA r4 r7.2 p1 r10).bind fun (r11:(List Int)) =>
   if 0 <= a3 ∧ a3.toNat < r11.length then
    (r11[a3.toNat]?).bind fun (x12:Int) =>
    if 0 <= a3 ∧ a3.toNat < r11.length then
     (r11[a3.toNat]?).bind fun (x13:Int) =>
     some (.inl (r11.set a3.toNat (IntKind.wrap .i64 (x12 + r10))))
    else none
   else none
 else
  some (.inr (.inl p1))
def pW (a0:Int) (a1:List aI) (a3:Int) (p1:List Int):Option (((List Int)) ⊕ ((List Int))) :=
 bV (fun (w:(List Int))=>bX a0 a1 a3 w) p1
def mG (a0:Int) (a1:List aI) (a2:List Int) (a3:Int):Option ((List Int)) :=
 (pW a0 a1 a3 a2).bind fun (r16:((List Int)) ⊕ ((List Int)))=>Sum.elim (fun z17 =>
 some z17) (fun z18 =>
 some z18) r16
def bS (a0 p2:Int) (r1:(List aD)) (p4:Int) (p5:List Int):Option ((Int × (List Int)) ⊕ ((List Int))) :=
 if decide (p4 < a0) = true then
  (kG a0 r1 p4 p2).bind fun (r6:Int × (List Int)) =>
  if 0 <= p2 ∧ p2.toNat < p5.length then
   (p5[p2.toNat]?).bind fun (x7:Int) =>
   if 0 <= p2 ∧ p2.toNat < p5.length then
    (p5[p2.toNat]?).bind fun (x8:Int) =>
    some (.inl (IntKind.wrap .i64 (p4 + 1),p5.set p2.toNat (if r6.1 < x7 then r6.1 else x7)))
   else none
  else none
 else
  some (.inr (p5))
def iR (a0 p2:Int) (r1:(List aD)) (p4:Int) (p5:List Int):Option ((List Int)) :=
 bV (fun (w:Int × (List Int))=>bS a0 p2 r1 w.1 w.2) (p4,p5)
def bU (a0:Int) (r1:(List aD)) (p2:Int) (p3:List Int):Option ((Int × (List Int)) ⊕ ((List Int))) :=
 if decide (p2 < a0) = true then
  (iR a0 p2 r1 0 p3).bind fun (r10:(List Int)) =>
  some (.inl (IntKind.wrap .i64 (p2 + 1),r10))
 else
  some (.inr (p3))
def iU (a0:Int) (r1:(List aD)) (p2:Int) (p3:List Int):Option ((List Int)) :=
 bV (fun (w:Int × (List Int))=>bU a0 r1 w.1 w.2) (p2,p3)
def iI (a0:Int) (a1:List aI) (a2:List Int):Option ((List Int)) :=
 (gH a1 a2 0).bind fun (r1:(List aD)) =>
 if 0 <= a0 ∧ a0 <= a0 ∧ 8 * a0 <= 281474976710656 ∧ a0 <= 9223372036854775807 then
  (iU a0 r1 0 (List.replicate a0.toNat (0:Int))).bind fun (r12:(List Int)) =>
  some r12
 else none
def dN (a0:Int) (a1:List aI) (p2:List Int) (p3:Int):Option (((List Int) × Int) ⊕ ((List Int))) :=
 if decide (p3 < (a1.length:Int)) = true then
  (nC a0 a1 p2 p3).bind fun (r4:(List Int)) =>
  some (.inl (r4,IntKind.wrap .i64 (p3 + 1)))
 else
  some (.inr (p2))
def lQ (a0:Int) (a1:List aI) (p2:List Int) (p3:Int):Option ((List Int)) :=
 bV (fun (w:(List Int) × Int)=>dN a0 a1 w.1 w.2) (p2,p3)
def dT (a0:Int) (a1:List aI) (p7:List Int) (p8:Int):Option (((List Int) × Int) ⊕ ((List Int))) :=
 if decide (p8 < (a1.length:Int)) = true then
  (mG a0 a1 p7 p8).bind fun (r9:(List Int)) =>
  some (.inl (r9,IntKind.wrap .i64 (p8 + 1)))
 else
  some (.inr (p7))
def lU (a0:Int) (a1:List aI) (p7:List Int) (p8:Int):Option ((List Int)) :=
 bV (fun (w:(List Int) × Int)=>dT a0 a1 w.1 w.2) (p7,p8)
def mF (a0:Int) (a1:List aI):Option ((List Int) × (List Int) × Int) :=
 (jY a0 a1).bind fun (r1:Bool) =>
 if (!(r1)) = true then
  some ([],[],1)
 else
  if 0 <= (a1.length:Int) ∧ (a1.length:Int) <= (a1.length:Int) ∧ 8 * (a1.length:Int) <= 281474976710656 ∧ (a1.length:Int) <= 9223372036854775807 then
   (lQ a0 a1 (List.replicate ((a1.length:Int).toNat) (0:Int)) 0).bind fun (r6:(List Int)) =>
   (lU a0 a1 r6 0).bind fun (r11:(List Int)) =>
   (iI a0 a1 r11).bind fun (r12:(List Int)) =>
   some (r11,r12,0)
  else none
def cR (a0:Int) (a1:List aF) (a2:List Int) (p3:Int) (p4:List aF):Option ((Int × (List aF)) ⊕ ((List aF))) :=
 if decide (p3 < (a1.length:Int)) = true then
  (at? a1 p3).bind fun (x5:aF) =>
  (jD x5 a2).bind fun (r6:Bool) =>
  if r6 = true then
   (at? a1 p3).bind fun (x7:aF) =>
   if (p4.length + 1) * 72 <= 140737488355328 then
    some (.inl (IntKind.wrap .i64 (p3 + 1),p4 ++ [x7]))
   else none
  else
   some (.inl (IntKind.wrap .i64 (p3 + 1),p4))
 else
  some (.inr (p4))
def lR (a0:Int) (a1:List aF) (a2:List Int) (p3:Int) (p4:List aF):Option ((List aF)) :=
 bV (fun (w:Int × (List aF))=>cR a0 a1 a2 w.1 w.2) (p3,p4)
def cO (a1:List aF) (a2:List Int) (r11:(List Int) × (List Int) × Int) (p12 p13:Int) (p14:List Int):Option ((Int × Int × (List Int)) ⊕ ((List Int))) :=
 if decide (p13 < (a1.length:Int)) = true then
  (at? a1 p13).bind fun (x15:aF) =>
  (jD x15 a2).bind fun (r16:Bool) =>
  if r16 = true then
   (at? r11.1 p12).bind fun (x17:Int) =>
   if (p14.length + 1) * 8 <= 140737488355328 then
    some (.inl (IntKind.wrap .i64 (p12 + 1),IntKind.wrap .i64 (p13 + 1),p14 ++ [x17]))
   else none
  else
   if (p14.length + 1) * 8 <= 140737488355328 then
    some (.inl (p12,IntKind.wrap .i64 (p13 + 1),p14 ++ [0]))
   else none
 else
  some (.inr (p14))
def lO (a1:List aF) (a2:List Int) (r11:(List Int) × (List Int) × Int) (p12 p13:Int) (p14:List Int):Option ((List Int)) :=
 bV (fun (w:Int × Int × (List Int))=>cO a1 a2 r11 w.1 w.2.1 w.2.2) (p12,p13,p14)
def fJ (a0:Int) (a1:List aF) (a2:List Int):Option ((List Int) × (List Int) × Int) :=
 (iL a0 a1).bind fun (r1:Int) =>
 if (r1 != 0) = true then
  some ([],[],1)
 else
  (j0 a2).bind fun (r2:Bool) =>
  if (!(r2)) = true then
   some ([],[],1)
  else
   (lR a0 a1 a2 0 []).bind fun (r9:(List aF)) =>
   (jI r9).bind fun (r10:(List aI)) =>
   (mF a0 r10).bind fun (r11:(List Int) × (List Int) × Int) =>
   (lO a1 a2 r11 0 0 []).bind fun (r19:(List Int)) =>
   some (r19,r11.2.1,0)
def bH (a0:List Int) (p1 p2:Int):Option ((Int × Int) ⊕ (Int ⊕ Unit)) :=
 if decide (p2 < (a0.length:Int)) = true then
  (at? a0 p2).bind fun (x3:Int) =>
  if decide (x3 < 0) = true then
   some (.inr (.inr (())))
  else
   (at? a0 p2).bind fun (x4:Int) =>
   if decide (x4 > 1099511627776) = true then
    some (.inr (.inr (())))
   else
    if decide ((a0.length:Int) > 100) = true then
     some (.inr (.inr (())))
    else
     (at? a0 p2).bind fun (x5:Int) =>
     some (.inl (IntKind.wrap .i64 (p1 + x5),IntKind.wrap .i64 (p2 + 1)))
 else
  some (.inr (.inl p1))
def pX (a0:List Int) (p1 p2:Int):Option (Int ⊕ Unit) :=
 bV (fun (w:Int × Int)=>bH a0 w.1 w.2) (p1,p2)
def mH (a0:List Int):Option (Int) :=
 (pX a0 0 0).bind fun (r7:Int ⊕ Unit)=>Sum.elim (fun z8 =>
 some z8) (fun z9 =>
 some 0) r7
def j6 (a0:Int) (a1:List aF) (a2:List Int):Option (Int) :=
 (fJ a0 a1 a2).bind fun (r1:(List Int) × (List Int) × Int) =>
 (mH r1.1).bind fun (r2:Int) =>
 some r2
def bL (a0:Int) (a1:List aF) (a2 a3:List Int) (a4:Int) (p1:List Int) (p2:Int):Option (((List Int) × Int) ⊕ ((List Int))) :=
 if decide (p2 < (a3.length:Int)) = true then
  if 0 <= p2 ∧ p2.toNat <= 64 then
   if ((IntKind.wrap .i64 (BitVec.ofInt (IntKind.bits .i64) (a4.fdiv (2 ^ p2.toNat)) &&& BitVec.ofInt (IntKind.bits .i64) 1).toNat) == 1) = true then
    (at? a3 p2).bind fun (x3:Int) =>
    (lT p1 x3).bind fun (r4:(List Int)) =>
    some (.inl (r4,IntKind.wrap .i64 (p2 + 1)))
   else
    some (.inl (p1,IntKind.wrap .i64 (p2 + 1)))
  else none
 else
  some (.inr (p1))
def oT (a0:Int) (a1:List aF) (a2 a3:List Int) (a4:Int) (p1:List Int) (p2:Int):Option ((List Int)) :=
 bV (fun (w:(List Int) × Int)=>bL a0 a1 a2 a3 a4 w.1 w.2) (p1,p2)
def kX (a0:Int) (a1:List aF) (a2 a3:List Int) (a4:Int):Option (Bool) :=
 (oT a0 a1 a2 a3 a4 a2 0).bind fun (r6:(List Int)) =>
 (j6 a0 a1 r6).bind fun (r7:Int) =>
 (j6 a0 a1 a2).bind fun (r8:Int) =>
 some (decide (r7 > r8))
def b7 (a0:List Int) (a1 p1:Int) (p2:List Int):Option ((Int × (List Int)) ⊕ ((List Int))) :=
 if decide (p1 < (a0.length:Int)) = true then
  if 0 <= p1 ∧ p1.toNat <= 64 then
   if ((IntKind.wrap .i64 (BitVec.ofInt (IntKind.bits .i64) (a1.fdiv (2 ^ p1.toNat)) &&& BitVec.ofInt (IntKind.bits .i64) 1).toNat) == 1) = true then
    (at? a0 p1).bind fun (x3:Int) =>
    if (p2.length + 1) * 8 <= 140737488355328 then
     some (.inl (IntKind.wrap .i64 (p1 + 1),p2 ++ [x3]))
    else none
   else
    some (.inl (IntKind.wrap .i64 (p1 + 1),p2))
  else none
 else
  some (.inr (p2))
def o9 (a0:List Int) (a1 p1:Int) (p2:List Int):Option ((List Int)) :=
 bV (fun (w:Int × (List Int))=>b7 a0 a1 w.1 w.2) (p1,p2)
def jE (a0:List Int) (a1:Int):Option ((List Int)) :=
 (o9 a0 a1 0 []).bind fun (r5:(List Int)) =>
 some r5
def cN (a0:Int) (a1:List aF) (a2:List Int) (r3:(List Int)) (p4:Int) (p5:List Int):Option ((Int × (List Int)) ⊕ ((List Int))) :=
 if decide (p4 < (r3.length:Int)) = true then
  (at? r3 p4).bind fun (x6:Int) =>
  (kE a2 x6).bind fun (r7:Bool) =>
  if (!(r7)) = true then
   (at? r3 p4).bind fun (x8:Int) =>
   if (p5.length + 1) * 8 <= 140737488355328 then
    some (.inl (IntKind.wrap .i64 (p4 + 1),p5 ++ [x8]))
   else none
  else
   some (.inl (IntKind.wrap .i64 (p4 + 1),p5))
 else
  some (.inr (p5))
def lW (a0:Int) (a1:List aF) (a2:List Int) (r3:(List Int)) (p4:Int) (p5:List Int):Option ((List Int)) :=
 bV (fun (w:Int × (List Int))=>cN a0 a1 a2 r3 w.1 w.2) (p4,p5)
def cQ (a0:Int) (a1:List aF) (a2:List Int) (r10:(List Int)) (p11:Int) (p12:List Bool):Option ((Int × (List Bool)) ⊕ ((List Bool))) :=
 if 0 <= (r10.length:Int) ∧ (r10.length:Int).toNat <= 64 then
  if decide (p11 < (IntKind.wrap .i64 (1 * 2 ^ ((r10.length:Int).toNat)))) = true then
   (kX a0 a1 a2 r10 p11).bind fun (r13:Bool) =>
   if (p12.length + 1) * 1 <= 140737488355328 then
    some (.inl (IntKind.wrap .i64 (p11 + 1),p12 ++ [r13]))
   else none
  else
   some (.inr (p12))
 else none
def lK (a0:Int) (a1:List aF) (a2:List Int) (r10:(List Int)) (p11:Int) (p12:List Bool):Option ((List Bool)) :=
 bV (fun (w:Int × (List Bool))=>cQ a0 a1 a2 r10 w.1 w.2) (p11,p12)
def bE (p16:List (List Int)) (p17:Int) (r10:(List Int)) (r15:(List Bool)) (p19:Bool) (p20:Int):Option ((Bool × Int) ⊕ (Bool)) :=
 if decide (p20 < p17) = true then
  if ((IntKind.wrap .i64 (BitVec.ofInt (IntKind.bits .i64) p20 &&& BitVec.ofInt (IntKind.bits .i64) p17).toNat) == p20) = true then
   if 0 <= p20 ∧ p20.toNat < r15.length then
    (r15[p20.toNat]?).bind fun (x21:Bool) =>
    if x21 = true then
     some (.inl (false,IntKind.wrap .i64 (p20 + 1)))
    else
     some (.inl (p19,IntKind.wrap .i64 (p20 + 1)))
   else none
  else
   some (.inl (p19,IntKind.wrap .i64 (p20 + 1)))
 else
  some (.inr (p19))
def lS (p16:List (List Int)) (p17:Int) (r10:(List Int)) (r15:(List Bool)) (p19:Bool) (p20:Int):Option (Bool) :=
 bV (fun (w:Bool × Int)=>bE p16 p17 r10 r15 w.1 w.2) (p19,p20)
def gY (p16:List (List Int)) (p17 p26:Int) (r10:(List Int)) (r15:(List Bool)) (r24:(List Int)) (p30:Bool) (p31:List (List Int)):Option ((List (List Int))) :=
 (at? p16 p26).bind fun (x32:List Int) =>
 if (p31.length + 1) * 24 <= 140737488355328 then
  some (p31 ++ [x32])
 else none
def bG (p16:List (List Int)) (p17:Int) (r10:(List Int)) (r15:(List Bool)) (r24:(List Int)) (p25:Bool) (p26:Int) (p27:List (List Int)):Option ((Bool × Int × (List (List Int))) ⊕ (Bool × (List (List Int)))) :=
 if decide (p26 < (p16.length:Int)) = true then
  if (!(p25)) = true then
   (at? p16 p26).bind fun (x28:List Int) =>
   (gS r24 x28).bind fun (r29:Bool) =>
   if r29 = true then
    if (p27.length + 1) * 24 <= 140737488355328 then
     (gY p16 p17 p26 r10 r15 r24 true (p27 ++ [r24])).bind fun (r34:(List (List Int))) =>
     some (.inl (true,IntKind.wrap .i64 (p26 + 1),r34))
    else none
   else
    (gY p16 p17 p26 r10 r15 r24 p25 p27).bind fun (r35:(List (List Int))) =>
    some (.inl (p25,IntKind.wrap .i64 (p26 + 1),r35))
  else
   (gY p16 p17 p26 r10 r15 r24 p25 p27).bind fun (r36:(List (List Int))) =>
   some (.inl (p25,IntKind.wrap .i64 (p26 + 1),r36))
 else
  some (.inr ((p25,p27)))
def jT (p16:List (List Int)) (p17:Int) (r10:(List Int)) (r15:(List Bool)) (r24:(List Int)) (p25:Bool) (p26:Int) (p27:List (List Int)):Option (Bool × (List (List Int))) :=
 bV (fun (w:Bool × Int × (List (List Int)))=>bG p16 p17 r10 r15 r24 w.1 w.2.1 w.2.2) (p25,p26,p27)
def dS (r10:(List Int)) (r15:(List Bool)) (p16:List (List Int)) (p17:Int):Option (((List (List Int)) × Int) ⊕ ((List (List Int)))) :=
 if decide (p17 < (r15.length:Int)) = true then
  if 0 <= p17 ∧ p17.toNat < r15.length then
   (r15[p17.toNat]?).bind fun (x18:Bool) =>
   (lS p16 p17 r10 r15 x18 0).bind fun (r23:Bool) =>
   if r23 = true then
    (jE r10 p17).bind fun (r24:(List Int)) =>
    (jT p16 p17 r10 r15 r24 false 0 []).bind fun (r39:Bool × (List (List Int))) =>
    if (!(r39.1)) = true then
     if (r39.2.length + 1) * 24 <= 140737488355328 then
      some (.inl (r39.2 ++ [r24],IntKind.wrap .i64 (p17 + 1)))
     else none
    else
     some (.inl (r39.2,IntKind.wrap .i64 (p17 + 1)))
   else
    some (.inl (p16,IntKind.wrap .i64 (p17 + 1)))
  else none
 else
  some (.inr (p16))
def lJ (r10:(List Int)) (r15:(List Bool)) (p16:List (List Int)) (p17:Int):Option ((List (List Int))) :=
 bV (fun (w:(List (List Int)) × Int)=>dS r10 r15 w.1 w.2) (p16,p17)
def gG (a0:Int) (a1:List aF) (a2:List Int):Option ((List (List Int)) × Int) :=
 (iL a0 a1).bind fun (r1:Int) =>
 if (r1 != 0) = true then
  some ([],1)
 else
  (j0 a2).bind fun (r2:Bool) =>
  if (!(r2)) = true then
   some ([],1)
  else
   (gP a1).bind fun (r3:(List Int)) =>
   (lW a0 a1 a2 r3 0 []).bind fun (r10:(List Int)) =>
   if decide ((r10.length:Int) > 8) = true then
    some ([],6)
   else
    (lK a0 a1 a2 r10 0 []).bind fun (r15:(List Bool)) =>
    (lJ r10 r15 [] 0).bind fun (r41:(List (List Int))) =>
    some (r41,0)
def bJ (a0:List aF) (a1:List Int) (a2 a3 p1:Int) (p2:List Int) (p3:List b6):Option ((Int × (List Int) × (List b6)) ⊕ ((List Int) × (List b6))) :=
 if decide (p1 < (a0.length:Int)) = true then
  if ((a1.length:Int) == (a0.length:Int)) = true then
   (at? a1 p1).bind fun (x4:Int) =>
   if decide (x4 > 0) = true then
    (at? a0 p1).bind fun (x5:aF) =>
    if (p2.length + 1) * 8 <= 140737488355328 then
     (at? a0 p1).bind fun (x6:aF) =>
     (at? a0 p1).bind fun (x7:aF) =>
     (at? a0 p1).bind fun (x8:aF) =>
     (at? a0 p1).bind fun (x9:aF) =>
     (at? a1 p1).bind fun (x10:Int) =>
     if (p3.length + 1) * 72 <= 140737488355328 then
      some (.inl (IntKind.wrap .i64 (p1 + 1),p2 ++ [x5.File],p3 ++ [(b6.mk 6 x6.From x7.To x8.Part x9.Sign x10 a2 a3 0)]))
     else none
    else none
   else
    some (.inl (IntKind.wrap .i64 (p1 + 1),p2,p3))
  else
   some (.inr ((p2,p3)))
 else
  some (.inr ((p2,p3)))
def fK (a0:List aF) (a1:List Int) (a2 a3 p1:Int) (p2:List Int) (p3:List b6):Option ((List Int) × (List b6)) :=
 bV (fun (w:Int × (List Int) × (List b6))=>bJ a0 a1 a2 a3 w.1 w.2.1 w.2.2) (p1,p2,p3)
def jO (a0:List aF) (a1:List Int) (a2 a3:Int):Option ((List Int) × (List b6)) :=
 (fK a0 a1 a2 a3 0 [] []).bind fun (r13:(List Int) × (List b6)) =>
 some (r13.1,r13.2)
def cD (a0 a1:List b6) (p1:Int):Option ((Int) ⊕ (Unit ⊕ Unit)) :=
 if decide (p1 < (a0.length:Int)) = true then
  (at? a0 p1).bind fun (x2:b6) =>
  (at? a1 p1).bind fun (x3:b6) =>
  if (!((x2.Kind == x3.Kind) && ((x2.Who == x3.Who) && ((x2.To == x3.To) && ((x2.Part == x3.Part) && ((x2.At == x3.At) && ((x2.Sum == x3.Sum) && ((x2.Day == x3.Day) && ((x2.City == x3.City) && (x2.Form == x3.Form)))))))))) = true then
   some (.inr (.inr (())))
  else
   some (.inl (IntKind.wrap .i64 (p1 + 1)))
 else
  some (.inr (.inl ()))
def rS (a0 a1:List b6) (p1:Int):Option (Unit ⊕ Unit) :=
 bV (fun (w:Int)=>cD a0 a1 w) p1
def jV (a0 a1:List b6):Option (Bool) :=
 if ((a0.length:Int) != (a1.length:Int)) = true then
  some false
 else
  (rS a0 a1 0).bind fun (r4:Unit ⊕ Unit)=>Sum.elim (fun z5 =>
  some true) (fun z6 =>
  some false) r4
def dQ (a0:List aF) (a1 a2:List Int) (p1:Int):Option ((Int) ⊕ (Unit ⊕ Unit)) :=
 if decide (p1 < (a0.length:Int)) = true then
  if decide (p1 < (a1.length:Int)) = true then
   (at? a1 p1).bind fun (x2:Int) =>
   if (x2 != 0) = true then
    (at? a0 p1).bind fun (x3:aF) =>
    (jD x3 a2).bind fun (r4:Bool) =>
    if (!(r4)) = true then
     some (.inr (.inr (())))
    else
     some (.inl (IntKind.wrap .i64 (p1 + 1)))
   else
    some (.inl (IntKind.wrap .i64 (p1 + 1)))
  else
   some (.inr (.inl ()))
 else
  some (.inr (.inl ()))
def lV (a0:List aF) (a1 a2:List Int) (p1:Int):Option (Unit ⊕ Unit) :=
 bV (fun (w:Int)=>dQ a0 a1 a2 w) p1
def mE (a0:List aF) (a1 a2:List Int):Option (Bool) :=
 (lV a0 a1 a2 0).bind fun (r5:Unit ⊕ Unit)=>Sum.elim (fun z6 =>
 some ((a1.length:Int) == (a0.length:Int))) (fun z7 =>
 some false) r5
def jW (a0:Int) (a1:List aF) (a2 a3:List Int) (a4:Int):Option (Bool) :=
 (j5).bind fun (r1:Bool) =>
 (oI a0 a1).bind fun (r2:Bool) =>
 if (!(r2)) = true then
  some r1
 else
  if decide ((a2.length:Int) > 20) = true then
   some r1
  else
   if decide ((a3.length:Int) > 20) = true then
    some r1
   else
    (iK a0 a1 a2).bind fun (r3:(List Int) × (List Int) × Int) =>
    (fJ a0 a1 a2).bind fun (r4:(List Int) × (List Int) × Int) =>
    (iJ a0 a1 a2).bind fun (r5:(List (List Int)) × Int) =>
    (gG a0 a1 a2).bind fun (r6:(List (List Int)) × Int) =>
    (m8 a1 a3 a4 0).bind fun (r7:(List Int) × (List b6)) =>
    (jO a1 a3 a4 0).bind fun (r8:(List Int) × (List b6)) =>
    (dL r3.1 r4.1).bind fun (r9:Bool) =>
    if (!(r9)) = true then
     some false
    else
     (dL r3.2.1 r4.2.1).bind fun (r10:Bool) =>
     if (!(r10)) = true then
      some false
     else
      if (r3.2.2 != r4.2.2) = true then
       some false
      else
       (fH r5.1 r6.1).bind fun (r11:Bool) =>
       if (!(r11)) = true then
        some false
       else
        if (r5.2 != r6.2) = true then
         some false
        else
         (dL r7.1 r8.1).bind fun (r12:Bool) =>
         if (!(r12)) = true then
          some false
         else
          (jV r7.2 r8.2).bind fun (r13:Bool) =>
          if (!(r13)) = true then
           some false
          else
           if r1 = true then
            (lH a0 a1).bind fun (r14:Int) =>
            (iL a0 a1).bind fun (r15:Int) =>
            if (r14 == r15) = true then
             (kM a1).bind fun (r16:(List Int)) =>
             (gP a1).bind fun (r17:(List Int)) =>
             (dL r16 r17).bind fun (r18:Bool) =>
             if r18 = true then
              (qJ a1 a3 a2).bind fun (r19:Bool) =>
              (mE a1 a3 a2).bind fun (r20:Bool) =>
              some (r19 == r20)
             else
              some false
            else
             some false
           else
            some false
end
end Go.Proofs.Ytgjcnbgfaimepaa
