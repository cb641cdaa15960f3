/- What the functions compute, as plain definitions. Printed by a program. -/
import Derived.Test.YtgjcnbgfaimepaaTab
set_option linter.unusedVariables false
set_option linter.unusedSimpArgs false
namespace Go.Proofs.Ytgjcnbgfaimepaa
noncomputable section
open Vm
open Go.RowKit
def mC:Option ((List aE)) :=
 some [(aE.mk 0 1 5 0 0 0 []),(aE.mk 1 2 5 0 0 0 [(aK.mk 0 7)]),(aE.mk 2 0 5 0 0 0 []),(aE.mk 1 0 2 0 0 0 [(aK.mk 3 1)])]
def vR (a0:aE):Option (aI) :=
 some (aI.mk a0.From a0.To a0.Sum)
def nM (a0 a1:Int):Option (Bool) :=
 if decide (a0 ≥ 0) = true then
  some (decide (a0 < a1))
 else
  some false
def dL (a0:Int) (a1:List aI) (p1:Int):Option ((Int) ⊕ (Unit ⊕ Unit)) :=
 if decide (p1 < (a1.length:Int)) = true then
  (at? a1 p1).bind fun (x2:aI) =>
  if decide (x2.From < 0) = true then
   some (.inr (.inr (())))
  else
   if decide (x2.From ≥ a0) = true then
    some (.inr (.inr (())))
   else
    if decide (x2.To < 0) = true then
     some (.inr (.inr (())))
    else
     if decide (x2.To ≥ a0) = true then
      some (.inr (.inr (())))
     else
      if (x2.From == x2.To) = true then
       some (.inr (.inr (())))
      else
       if decide (x2.Sum < 1) = true then
        some (.inr (.inr (())))
       else
        if decide (x2.Sum > 1099511627776) = true then
         some (.inr (.inr (())))
        else
         some (.inl (IntKind.wrap .i64 (p1 + 1)))
 else
  some (.inr (.inl ()))
def lV (a0:Int) (a1:List aI) (p1:Int):Option (Unit ⊕ Unit) :=
 dK (fun (w:Int)=>dL a0 a1 w) p1
def jA (a0:Int) (a1:List aI):Option (Bool) :=
 if decide (a0 < 0) = true then
  some false
 else
  if decide (a0 > 40) = true then
   some false
  else
   if decide ((a1.length:Int) > 100) = true then
    some false
   else
    (lV a0 a1 0).bind fun (r3:Unit ⊕ Unit)=>Sum.elim (fun z4 =>
    some true) (fun z5 =>
    some false) r3
def eO (a0:Int) (a1:List aE) (p1:Int) (p2:List aI) (r4:aI) (x3:aE) (p8:Int):Option ((Int) ⊕ (Unit ⊕ Unit)) :=
 if decide (p8 < (x3.Rights.length:Int)) = true then
  (at? x3.Rights p8).bind fun (x9:aK) =>
  (nM x9.Kind 4).bind fun (r10:Bool) =>
  if (!(r10)) = true then
   some (.inr (.inr (())))
  else
   (nM x9.Owner 200).bind fun (r11:Bool) =>
   if (!(r11)) = true then
    some (.inr (.inr (())))
   else
    some (.inl (IntKind.wrap .i64 (p8 + 1)))
 else
  some (.inr (.inl ()))
def oT (a0:Int) (a1:List aE) (p1:Int) (p2:List aI) (r4:aI) (x3:aE) (p8:Int):Option (Unit ⊕ Unit) :=
 dK (fun (w:Int)=>eO a0 a1 p1 p2 r4 x3 w) p8
def eN (a0:Int) (a1:List aE) (p1:Int) (p2:List aI):Option ((Int × (List aI)) ⊕ (((List aI)) ⊕ Unit)) :=
 if decide (p1 < (a1.length:Int)) = true then
  (at? a1 p1).bind fun (x3:aE) =>
  (vR x3).bind fun (r4:aI) =>
  if (p2.length + 1) * 24 <= 140737488355328 then
   (nM x3.File 50).bind fun (r5:Bool) =>
   if (!(r5)) = true then
    some (.inr (.inr (())))
   else
    (nM x3.Part 4).bind fun (r6:Bool) =>
    if (!(r6)) = true then
     some (.inr (.inr (())))
    else
     (nM x3.Sign 40).bind fun (r7:Bool) =>
     if (!(r7)) = true then
      some (.inr (.inr (())))
     else
      if decide ((x3.Rights.length:Int) > 8) = true then
       some (.inr (.inr (())))
      else
       (oT a0 a1 p1 p2 r4 x3 0).bind fun (r12:Unit ⊕ Unit)=>Sum.elim (fun z13 =>
       some (.inl (IntKind.wrap .i64 (p1 + 1),p2 ++ [r4]))) (fun z14 =>
       some (.inr (.inr (())))) r12
  else none
 else
  some (.inr (.inl p2))
def oK (a0:Int) (a1:List aE) (p1:Int) (p2:List aI):Option (((List aI)) ⊕ Unit) :=
 dK (fun (w:Int × (List aI))=>eN a0 a1 w.1 w.2) (p1,p2)
def jV (a0:Int) (a1:List aE):Option (Int) :=
 (oK a0 a1 0 []).bind fun (r16:((List aI)) ⊕ Unit)=>Sum.elim (fun z17 =>
 (jA a0 z17).bind fun (r19:Bool) =>
  if (!(r19)) = true then
   some 1
  else
   some 0) (fun z18 =>
 some 1) r16
def eU (a0:List Int) (p1 p2:Int):Option ((Int × Int) ⊕ (Unit ⊕ Unit)) :=
 if decide (p2 < (a0.length:Int)) = true then
  (at? a0 p2).bind fun (x3:Int) =>
  if decide (x3 <= p1) = true then
   some (.inr (.inr (())))
  else
   if decide (x3 ≥ 200) = true then
    some (.inr (.inr (())))
   else
    some (.inl (x3,IntKind.wrap .i64 (p2 + 1)))
 else
  some (.inr (.inl ()))
def sK (a0:List Int) (p1 p2:Int):Option (Unit ⊕ Unit) :=
 dK (fun (w:Int × Int)=>eU a0 w.1 w.2) (p1,p2)
def nQ (a0:List Int):Option (Bool) :=
 (sK a0 (-1) 0).bind fun (r4:Unit ⊕ Unit)=>Sum.elim (fun z5 =>
 some true) (fun z6 =>
 some false) r4
def bZ (a0:List Int) (a1 p1:Int):Option ((Int) ⊕ (Unit ⊕ Int)) :=
 if decide (p1 < (a0.length:Int)) = true then
  (at? a0 p1).bind fun (x2:Int) =>
  if (a1 == x2) = true then
   some (.inr (.inr (p1)))
  else
   some (.inl (IntKind.wrap .i64 (p1 + 1)))
 else
  some (.inr (.inl ()))
def jU (a0:List Int) (a1 p1:Int):Option (Unit ⊕ Int) :=
 dK (fun (w:Int)=>bZ a0 a1 w) p1
def gK (a0:List Int) (a1:Int):Option (Int) :=
 (jU a0 a1 0).bind fun (r4:Unit ⊕ Int)=>Sum.elim (fun z5 =>
 some (-1)) (fun z6 =>
 some z6) r4
def cZ (a0:List Int) (a1:Int):Option (Bool) :=
 (gK a0 a1).bind fun (r1:Int) =>
 some (decide (r1 ≥ 0))
def nG (a0:aK) (a1:List Int):Option (Bool) :=
 (cZ a1 a0.Owner).bind fun (r1:Bool) =>
 some (!(r1))
def aT (a0:List aK) (a1:List Int) (p1:Int):Option ((Int) ⊕ (Unit ⊕ Int)) :=
 if decide (p1 < (a0.length:Int)) = true then
  (at? a0 p1).bind fun (x2:aK) =>
  (nG x2 a1).bind fun (r3:Bool) =>
  if r3 = true then
   some (.inr (.inr (p1)))
  else
   some (.inl (IntKind.wrap .i64 (p1 + 1)))
 else
  some (.inr (.inl ()))
def cR (a0:List aK) (a1:List Int) (p1:Int):Option (Unit ⊕ Int) :=
 dK (fun (w:Int)=>aT a0 a1 w) p1
def cC (a0:List aK) (a1:List Int):Option (Int) :=
 (cR a0 a1 0).bind fun (r5:Unit ⊕ Int)=>Sum.elim (fun z6 =>
 some (-1)) (fun z7 =>
 some z7) r5
def bX (a0:List aK) (a1:List Int):Option (Bool) :=
 (cC a0 a1).bind fun (r1:Int) =>
 some (decide (r1 ≥ 0))
def qN (a0:aE) (a1:List Int):Option (Bool) :=
 (bX a0.Rights a1).bind fun (r1:Bool) =>
 some (!(r1))
def jR (a0:List aI) (a1:List Int) (p1:Int) (x3:aI) (p6:List aC):Option ((List aC)) :=
 (at? a1 p1).bind fun (x7:Int) =>
 if decide (x7 > 0) = true then
  (at? a1 p1).bind fun (x8:Int) =>
  if (p6.length + 1) * 48 <= 140737488355328 then
   some (p6 ++ [(aC.mk p1 x3.To x3.From 1 x8 true)])
  else none
 else
  some (p6)
def c7 (a0:List aI) (a1:List Int) (p1:Int) (p2:List aC):Option ((Int × (List aC)) ⊕ ((List aC))) :=
 if decide (p1 < (a0.length:Int)) = true then
  (at? a0 p1).bind fun (x3:aI) =>
  (at? a1 p1).bind fun (x4:Int) =>
  if decide (x4 < x3.Sum) = true then
   (at? a1 p1).bind fun (x5:Int) =>
   if (p2.length + 1) * 48 <= 140737488355328 then
    (jR a0 a1 p1 x3 (p2 ++ [(aC.mk p1 x3.From x3.To (-1) (IntKind.wrap .i64 (x3.Sum - x5)) false)])).bind fun (r10:(List aC)) =>
    some (.inl (IntKind.wrap .i64 (p1 + 1),r10))
   else none
  else
   (jR a0 a1 p1 x3 p2).bind fun (r11:(List aC)) =>
   some (.inl (IntKind.wrap .i64 (p1 + 1),r11))
 else
  some (.inr (p2))
def qM (a0:List aI) (a1:List Int) (p1:Int) (p2:List aC):Option ((List aC)) :=
 dK (fun (w:Int × (List aC))=>c7 a0 a1 w.1 w.2) (p1,p2)
def fQ (a0:List aI) (a1:List Int):Option ((List aC)) :=
 (qM a0 a1 0 []).bind fun (r13:(List aC)) =>
 some r13
def fY (a0:List Int) (a1:Int):Option ((List Int)):=aSm a0 a1
def fX (a0:aD) (a1:aC):Option (aD) :=
 some (aD.mk (IntKind.wrap .i64 (a0.c + a1.cost)) (IntKind.wrap .i64 (a0.steps + 1)) a0.fine)
def eE (a0 a1:aD):Option (Bool) :=
 if a0.fine = true then
  if (!(a1.fine)) = true then
   some true
  else
   if decide (a0.c < a1.c) = true then
    some true
   else
    if (a0.c == a1.c) = true then
     some (decide (a0.steps < a1.steps))
    else
     some false
 else
  some false
def b8 (a0:Int) (a1:List aC) (a2:List Int) (p1:Int) (p2:List aD):Option ((Int × (List aD)) ⊕ ((List aD))) :=
 if decide (p1 < a0) = true then
  (at? a2 p1).bind fun (x3:Int) =>
  if 0 <= p1 ∧ p1.toNat < p2.length then
   (p2[p1.toNat]?).bind fun (x4:aD) =>
   some (.inl (IntKind.wrap .i64 (p1 + 1),p2.set p1.toNat (aD.mk x4.c x4.steps (decide (x3 > 0)))))
  else none
 else
  some (.inr (p2))
def jN (a0:Int) (a1:List aC) (a2:List Int) (p1:Int) (p2:List aD):Option ((List aD)) :=
 dK (fun (w:Int × (List aD))=>b8 a0 a1 a2 w.1 w.2) (p1,p2)
def dG (a1:List aC) (p11:Bool) (p12:Int) (p13:List aD) (p14:List Int):Option ((Bool × Int × (List aD) × (List Int)) ⊕ (Bool × (List aD) × (List Int))) :=
 if decide (p12 < (a1.length:Int)) = true then
  (at? a1 p12).bind fun (x15:aC) =>
  if 0 <= x15.from_ ∧ x15.from_.toNat < p13.length then
   (p13[x15.from_.toNat]?).bind fun (x16:aD) =>
   (fX x16 x15).bind fun (r17:aD) =>
   if 0 <= x15.to ∧ x15.to.toNat < p13.length then
    (p13[x15.to.toNat]?).bind fun (x18:aD) =>
    (eE r17 x18).bind fun (r19:Bool) =>
    if r19 = true then
     if 0 <= x15.to ∧ x15.to.toNat < p13.length then
      (p13[x15.to.toNat]?).bind fun (x20:aD) =>
      if 0 <= x15.to ∧ x15.to.toNat < p14.length then
       (p14[x15.to.toNat]?).bind fun (x21:Int) =>
       some (.inl (true,IntKind.wrap .i64 (p12 + 1),p13.set x15.to.toNat r17,p14.set x15.to.toNat p12))
      else none
     else none
    else
     some (.inl (p11,IntKind.wrap .i64 (p12 + 1),p13,p14))
   else none
  else none
 else
  some (.inr ((p11,p13,p14)))
def jL (a1:List aC) (p11:Bool) (p12:Int) (p13:List aD) (p14:List Int):Option (Bool × (List aD) × (List Int)) :=
 dK (fun (w:Bool × Int × (List aD) × (List Int))=>dG a1 w.1 w.2.1 w.2.2.1 w.2.2.2) (p11,p12,p13,p14)
def fA (a1:List aC) (p8:Bool) (p9:List aD) (p10:List Int):Option ((Bool × (List aD) × (List Int)) ⊕ ((List aD) × (List Int))) :=
 if p8 = true then
  (jL a1 false 0 p9 p10).bind fun (r25:Bool × (List aD) × (List Int)) =>
  some (.inl (r25.1,r25.2.1,r25.2.2))
 else
  some (.inr ((p9,p10)))
def jP (a1:List aC) (p8:Bool) (p9:List aD) (p10:List Int):Option ((List aD) × (List Int)) :=
 dK (fun (w:Bool × (List aD) × (List Int))=>fA a1 w.1 w.2.1 w.2.2) (p8,p9,p10)
def fM (a0:Int) (a1:List aC) (a2:List Int):Option ((List aD) × (List Int)) :=
 if 0 <= a0 ∧ a0 <= a0 ∧ 24 * a0 <= 281474976710656 ∧ a0 <= 9223372036854775807 then
  (jN a0 a1 a2 0 (List.replicate a0.toNat ((aD.mk 0 0 false):aD))).bind fun (r6:(List aD)) =>
  (fY [(-1)] (r6.length:Int)).bind fun (r7:(List Int)) =>
  (jP a1 true r6 r7).bind fun (r28:(List aD) × (List Int)) =>
  some (r28.1,r28.2)
 else none
def fC (a0:aC) (a1:List Int) (p1:Int):Option ((List Int)) :=
 if 0 <= a0.due ∧ a0.due.toNat < a1.length then
  (a1[a0.due.toNat]?).bind fun (x2:Int) =>
  if 0 <= a0.due ∧ a0.due.toNat < a1.length then
   (a1[a0.due.toNat]?).bind fun (x3:Int) =>
   some (a1.set a0.due.toNat (IntKind.wrap .i64 (x2 + p1)))
  else none
 else none
def eJ (a0:aC) (a1:List Int) (a2:Int):Option ((List Int)) :=
 if a0.back = true then
  (fC a0 a1 (IntKind.wrap .i64 (0 - a2))).bind fun (r5:(List Int)) =>
  some r5
 else
  (fC a0 a1 a2).bind fun (r6:(List Int)) =>
  some r6
def cG (a0:Int) (a1:List aI) (a2:List Int) (p1:Int) (p2:List Int):Option ((Int × (List Int)) ⊕ ((List Int))) :=
 if decide (p1 < (a1.length:Int)) = true then
  (at? a1 p1).bind fun (x3:aI) =>
  if 0 <= x3.To ∧ x3.To.toNat < p2.length then
   (p2[x3.To.toNat]?).bind fun (x4:Int) =>
   if 0 <= p1 ∧ p1.toNat < a2.length then
    (a2[p1.toNat]?).bind fun (x5:Int) =>
    if 0 <= x3.To ∧ x3.To.toNat < p2.length then
     (p2[x3.To.toNat]?).bind fun (x6:Int) =>
     if 0 <= x3.From ∧ x3.From.toNat < (p2.set x3.To.toNat (IntKind.wrap .i64 (x4 + x5))).length then
      ((p2.set x3.To.toNat (IntKind.wrap .i64 (x4 + x5)))[x3.From.toNat]?).bind fun (x7:Int) =>
      if 0 <= p1 ∧ p1.toNat < a2.length then
       (a2[p1.toNat]?).bind fun (x8:Int) =>
       if 0 <= x3.From ∧ x3.From.toNat < (p2.set x3.To.toNat (IntKind.wrap .i64 (x4 + x5))).length then
        ((p2.set x3.To.toNat (IntKind.wrap .i64 (x4 + x5)))[x3.From.toNat]?).bind fun (x9:Int) =>
        some (.inl (IntKind.wrap .i64 (p1 + 1),(p2.set x3.To.toNat (IntKind.wrap .i64 (x4 + x5))).set x3.From.toNat (IntKind.wrap .i64 (x7 - x8))))
       else none
      else none
     else none
    else none
   else none
  else none
 else
  some (.inr (p2))
def j6 (a0:Int) (a1:List aI) (a2:List Int) (p1:Int) (p2:List Int):Option ((List Int)) :=
 dK (fun (w:Int × (List Int))=>cG a0 a1 a2 w.1 w.2) (p1,p2)
def aZ (a0:Int) (a1:List aI) (p12 p13:List Int) (r14:(List aC)) (r15:(List aD) × (List Int)) (p16 p17:Int):Option ((Int × Int) ⊕ (Int)) :=
 if decide (p17 < a0) = true then
  if 0 <= p17 ∧ p17.toNat < p12.length then
   (p12[p17.toNat]?).bind fun (x18:Int) =>
   if decide (x18 < 0) = true then
    if decide (p16 < 0) = true then
     if 0 <= p17 ∧ p17.toNat < r15.1.length then
      (r15.1[p17.toNat]?).bind fun (x19:aD) =>
      if x19.fine = true then
       some (.inl (p17,IntKind.wrap .i64 (p17 + 1)))
      else
       if decide (p16 ≥ 0) = true then
        if 0 <= p17 ∧ p17.toNat < r15.1.length then
         (r15.1[p17.toNat]?).bind fun (x20:aD) =>
         if 0 <= p16 ∧ p16.toNat < r15.1.length then
          (r15.1[p16.toNat]?).bind fun (x21:aD) =>
          (eE x20 x21).bind fun (r22:Bool) =>
          if r22 = true then
           some (.inl (p17,IntKind.wrap .i64 (p17 + 1)))
          else
           some (.inl (p16,IntKind.wrap .i64 (p17 + 1)))
         else none
        else none
       else
        some (.inl (p16,IntKind.wrap .i64 (p17 + 1)))
     else none
    else
     if decide (p16 ≥ 0) = true then
      if 0 <= p17 ∧ p17.toNat < r15.1.length then
       (r15.1[p17.toNat]?).bind fun (x23:aD) =>
       if 0 <= p16 ∧ p16.toNat < r15.1.length then
        (r15.1[p16.toNat]?).bind fun (x24:aD) =>
        (eE x23 x24).bind fun (r25:Bool) =>
        if r25 = true then
         some (.inl (p17,IntKind.wrap .i64 (p17 + 1)))
        else
         some (.inl (p16,IntKind.wrap .i64 (p17 + 1)))
       else none
      else none
     else
      some (.inl (p16,IntKind.wrap .i64 (p17 + 1)))
   else
    some (.inl (p16,IntKind.wrap .i64 (p17 + 1)))
  else none
 else
  some (.inr (p16))
def kA (a0:Int) (a1:List aI) (p12 p13:List Int) (r14:(List aC)) (r15:(List aD) × (List Int)) (p16 p17:Int):Option (Int) :=
 dK (fun (w:Int × Int)=>aZ a0 a1 p12 p13 r14 r15 w.1 w.2) (p16,p17)
def dM (a0:Int) (a1:List aI) (p12 p13:List Int) (r14:(List aC)) (r15:(List aD) × (List Int)) (r27 p29 p30:Int):Option ((Int × Int) ⊕ (Int × Int)) :=
 if 0 <= p30 ∧ p30.toNat < r15.2.length then
  (r15.2[p30.toNat]?).bind fun (x31:Int) =>
  if decide (x31 ≥ 0) = true then
   if 0 <= p30 ∧ p30.toNat < r15.2.length then
    (r15.2[p30.toNat]?).bind fun (x32:Int) =>
    if 0 <= x32 ∧ x32.toNat < r14.length then
     (r14[x32.toNat]?).bind fun (x33:aC) =>
     if 0 <= p30 ∧ p30.toNat < r15.2.length then
      (r15.2[p30.toNat]?).bind fun (x34:Int) =>
      if 0 <= x34 ∧ x34.toNat < r14.length then
       (r14[x34.toNat]?).bind fun (x35:aC) =>
       some (.inl ((if x33.most < p29 then x33.most else p29),x35.from_))
      else none
     else none
    else none
   else none
  else
   some (.inr ((p29,p30)))
 else none
def fP (a0:Int) (a1:List aI) (p12 p13:List Int) (r14:(List aC)) (r15:(List aD) × (List Int)) (r27 p29 p30:Int):Option (Int × Int) :=
 dK (fun (w:Int × Int)=>dM a0 a1 p12 p13 r14 r15 r27 w.1 w.2) (p29,p30)
def dN (a0:Int) (a1:List aI) (p12:List Int) (r14:(List aC)) (r15:(List aD) × (List Int)) (r27:Int) (r38:Int × Int) (x39 p40:Int) (p41:List Int):Option ((Int × (List Int)) ⊕ ((List Int))) :=
 if 0 <= p40 ∧ p40.toNat < r15.2.length then
  (r15.2[p40.toNat]?).bind fun (x42:Int) =>
  if decide (x42 ≥ 0) = true then
   if 0 <= p40 ∧ p40.toNat < r15.2.length then
    (r15.2[p40.toNat]?).bind fun (x43:Int) =>
    if 0 <= x43 ∧ x43.toNat < r14.length then
     (r14[x43.toNat]?).bind fun (x44:aC) =>
     (eJ x44 p41 (if x39 < r38.1 then x39 else r38.1)).bind fun (r45:(List Int)) =>
     if 0 <= p40 ∧ p40.toNat < r15.2.length then
      (r15.2[p40.toNat]?).bind fun (x46:Int) =>
      if 0 <= x46 ∧ x46.toNat < r14.length then
       (r14[x46.toNat]?).bind fun (x47:aC) =>
       some (.inl (x47.from_,r45))
      else none
     else none
    else none
   else none
  else
   some (.inr (p41))
 else none
def fK (a0:Int) (a1:List aI) (p12:List Int) (r14:(List aC)) (r15:(List aD) × (List Int)) (r27:Int) (r38:Int × Int) (x39 p40:Int) (p41:List Int):Option ((List Int)) :=
 dK (fun (w:Int × (List Int))=>dN a0 a1 p12 r14 r15 r27 r38 x39 w.1 w.2) (p40,p41)
def cX (a0:Int) (a1:List aI) (p12 p13:List Int):Option (((List Int) × (List Int)) ⊕ ((List Int))) :=
 (fQ a1 p13).bind fun (r14:(List aC)) =>
 (fM a0 r14 p12).bind fun (r15:(List aD) × (List Int)) =>
 (kA a0 a1 p12 p13 r14 r15 (-1) 0).bind fun (r27:Int) =>
 if decide (r27 < 0) = true then
  some (.inr (p13))
 else
  if 0 <= r27 ∧ r27.toNat < p12.length then
   (p12[r27.toNat]?).bind fun (x28:Int) =>
   (fP a0 a1 p12 p13 r14 r15 r27 (IntKind.wrap .i64 (0 - x28)) r27).bind fun (r38:Int × Int) =>
   if 0 <= r38.2 ∧ r38.2.toNat < p12.length then
    (p12[r38.2.toNat]?).bind fun (x39:Int) =>
    (fK a0 a1 p12 r14 r15 r27 r38 x39 r27 p13).bind fun (r49:(List Int)) =>
    if 0 <= r38.2 ∧ r38.2.toNat < p12.length then
     (p12[r38.2.toNat]?).bind fun (x50:Int) =>
     if 0 <= r38.2 ∧ r38.2.toNat < p12.length then
      (p12[r38.2.toNat]?).bind fun (x51:Int) =>
      if 0 <= r27 ∧ r27.toNat < (p12.set r38.2.toNat (IntKind.wrap .i64 (x50 - (if x39 < r38.1 then x39 else r38.1)))).length then
       ((p12.set r38.2.toNat (IntKind.wrap .i64 (x50 - (if x39 < r38.1 then x39 else r38.1))))[r27.toNat]?).bind fun (x52:Int) =>
       if 0 <= r27 ∧ r27.toNat < (p12.set r38.2.toNat (IntKind.wrap .i64 (x50 - (if x39 < r38.1 then x39 else r38.1)))).length then
        ((p12.set r38.2.toNat (IntKind.wrap .i64 (x50 - (if x39 < r38.1 then x39 else r38.1))))[r27.toNat]?).bind fun (x53:Int) =>
        some (.inl ((p12.set r38.2.toNat (IntKind.wrap .i64 (x50 - (if x39 < r38.1 then x39 else r38.1)))).set r27.toNat (IntKind.wrap .i64 (x52 + (if x39 < r38.1 then x39 else r38.1))),r49))
       else none
      else none
     else none
    else none
   else none
  else none
def m6 (a0:Int) (a1:List aI) (p12 p13:List Int):Option ((List Int)) :=
 dK (fun (w:(List Int) × (List Int))=>cX a0 a1 w.1 w.2) (p12,p13)
def kL (a0:Int) (a1:List aI) (a2:List Int):Option ((List Int)) :=
 if 0 <= a0 ∧ a0 <= a0 ∧ 8 * a0 <= 281474976710656 ∧ a0 <= 9223372036854775807 then
  (j6 a0 a1 a2 0 (List.replicate a0.toNat (0:Int))).bind fun (r11:(List Int)) =>
  (m6 a0 a1 r11 a2).bind fun (r55:(List Int)) =>
  some r55
 else none
def fW (a0:Int) (a1:aC):Option (Int) :=
 some (IntKind.wrap .i64 (a0 + a1.cost))
def oZ (a0:Int):Option (Bool) :=
 some (a0 != a0)
def qX (a0 a1:Int):Option (Bool) :=
 (oZ a0).bind fun (r1:Bool) =>
 if r1 = true then
  (oZ a1).bind fun (r2:Bool) =>
  if (!(r2)) = true then
   some true
  else
   some (decide (a0 < a1))
 else
  some (decide (a0 < a1))
def cQ (r1:(List aC)) (p6:Bool) (p7:Int) (p8 p9:List Int):Option ((Bool × Int × (List Int) × (List Int)) ⊕ (Bool × (List Int) × (List Int))) :=
 if decide (p7 < (r1.length:Int)) = true then
  if 0 <= p7 ∧ p7.toNat < r1.length then
   (r1[p7.toNat]?).bind fun (x10:aC) =>
   if 0 <= x10.from_ ∧ x10.from_.toNat < p8.length then
    (p8[x10.from_.toNat]?).bind fun (x11:Int) =>
    (fW x11 x10).bind fun (r12:Int) =>
    if 0 <= x10.to ∧ x10.to.toNat < p8.length then
     (p8[x10.to.toNat]?).bind fun (x13:Int) =>
     (qX r12 x13).bind fun (r14:Bool) =>
     if r14 = true then
      if 0 <= x10.to ∧ x10.to.toNat < p8.length then
       (p8[x10.to.toNat]?).bind fun (x15:Int) =>
       if 0 <= x10.to ∧ x10.to.toNat < p9.length then
        (p9[x10.to.toNat]?).bind fun (x16:Int) =>
        some (.inl (true,IntKind.wrap .i64 (p7 + 1),p8.set x10.to.toNat r12,p9.set x10.to.toNat p7))
       else none
      else none
     else
      some (.inl (p6,IntKind.wrap .i64 (p7 + 1),p8,p9))
    else none
   else none
  else none
 else
  some (.inr ((p6,p8,p9)))
def hY (r1:(List aC)) (p6:Bool) (p7:Int) (p8 p9:List Int):Option (Bool × (List Int) × (List Int)) :=
 dK (fun (w:Bool × Int × (List Int) × (List Int))=>cQ r1 w.1 w.2.1 w.2.2.1 w.2.2.2) (p6,p7,p8,p9)
def eK (r1:(List aC)) (p3:Bool) (p4 p5:List Int):Option ((Bool × (List Int) × (List Int)) ⊕ ((List Int) × (List Int))) :=
 if p3 = true then
  (hY r1 false 0 p4 p5).bind fun (r20:Bool × (List Int) × (List Int)) =>
  some (.inl (r20.1,r20.2.1,r20.2.2))
 else
  some (.inr ((p4,p5)))
def hJ (r1:(List aC)) (p3:Bool) (p4 p5:List Int):Option ((List Int) × (List Int)) :=
 dK (fun (w:Bool × (List Int) × (List Int))=>eK r1 w.1 w.2.1 w.2.2) (p3,p4,p5)
def eG (a0:Int) (a1:List aI) (a2:List Int):Option ((List Int)) :=
 if 0 <= a0 ∧ a0 <= a0 ∧ 8 * a0 <= 281474976710656 ∧ a0 <= 9223372036854775807 then
  (fQ a1 a2).bind fun (r1:(List aC)) =>
  (fY [(-1)] ((List.replicate a0.toNat (0:Int)).length:Int)).bind fun (r2:(List Int)) =>
  (hJ r1 true (List.replicate a0.toNat (0:Int)) r2).bind fun (r23:(List Int) × (List Int)) =>
  some r23.1
 else none
def c8 (a0:Int) (a1:List aI) (a3:List Int) (a4:Int) (p5:List Int) (r8:(List aC)) (p9:Int) (p10:List aC):Option ((Int × (List aC)) ⊕ ((List aC))) :=
 if decide (p9 < (r8.length:Int)) = true then
  if 0 <= p9 ∧ p9.toNat < r8.length then
   (r8[p9.toNat]?).bind fun (x11:aC) =>
   if decide (x11.due > a4) = true then
    (at? a3 x11.to).bind fun (x12:Int) =>
    (at? a3 x11.from_).bind fun (x13:Int) =>
    if (x12 == (IntKind.wrap .i64 (x13 + x11.cost))) = true then
     if (p10.length + 1) * 48 <= 140737488355328 then
      some (.inl (IntKind.wrap .i64 (p9 + 1),p10 ++ [x11]))
     else none
    else
     some (.inl (IntKind.wrap .i64 (p9 + 1),p10))
   else
    some (.inl (IntKind.wrap .i64 (p9 + 1),p10))
  else none
 else
  some (.inr (p10))
def lS (a0:Int) (a1:List aI) (a3:List Int) (a4:Int) (p5:List Int) (r8:(List aC)) (p9:Int) (p10:List aC):Option ((List aC)) :=
 dK (fun (w:Int × (List aC))=>c8 a0 a1 a3 a4 p5 r8 w.1 w.2) (p9,p10)
def c9 (a0:Int) (a1:List aI) (a3:List Int) (a4:Int) (p5:List Int) (r15:(List aC)) (x16:aI) (p18:Int) (p19:List aC):Option ((Int × (List aC)) ⊕ ((List aC))) :=
 if decide (p18 < (r15.length:Int)) = true then
  if 0 <= p18 ∧ p18.toNat < p19.length then
   (p19[p18.toNat]?).bind fun (x20:aC) =>
   some (.inl (IntKind.wrap .i64 (p18 + 1),p19.set p18.toNat (aC.mk x20.due x20.from_ x20.to 0 x20.most x20.back)))
  else none
 else
  some (.inr (p19))
def lX (a0:Int) (a1:List aI) (a3:List Int) (a4:Int) (p5:List Int) (r15:(List aC)) (x16:aI) (p18:Int) (p19:List aC):Option ((List aC)) :=
 dK (fun (w:Int × (List aC))=>c9 a0 a1 a3 a4 p5 r15 x16 w.1 w.2) (p18,p19)
def d9 (a0:Int) (a1:List aI) (a3:List Int) (a4:Int) (p5:List Int) (r22:(List aC)) (r23:(List aD) × (List Int)) (p29 p30:Int):Option ((Int × Int) ⊕ (Int)) :=
 if 0 <= p30 ∧ p30.toNat < r23.2.length then
  (r23.2[p30.toNat]?).bind fun (x31:Int) =>
  if decide (x31 ≥ 0) = true then
   if 0 <= p30 ∧ p30.toNat < r23.2.length then
    (r23.2[p30.toNat]?).bind fun (x32:Int) =>
    if 0 <= x32 ∧ x32.toNat < r22.length then
     (r22[x32.toNat]?).bind fun (x33:aC) =>
     if 0 <= p30 ∧ p30.toNat < r23.2.length then
      (r23.2[p30.toNat]?).bind fun (x34:Int) =>
      if 0 <= x34 ∧ x34.toNat < r22.length then
       (r22[x34.toNat]?).bind fun (x35:aC) =>
       some (.inl ((if x33.most < p29 then x33.most else p29),x35.from_))
      else none
     else none
    else none
   else none
  else
   some (.inr (p29))
 else none
def gS (a0:Int) (a1:List aI) (a3:List Int) (a4:Int) (p5:List Int) (r22:(List aC)) (r23:(List aD) × (List Int)) (p29 p30:Int):Option (Int) :=
 dK (fun (w:Int × Int)=>d9 a0 a1 a3 a4 p5 r22 r23 w.1 w.2) (p29,p30)
def eH (a0:Int) (a1:List aI) (a3:List Int) (a4:Int) (r22:(List aC)) (r23:(List aD) × (List Int)) (r37 p39:Int) (p40:List Int):Option ((Int × (List Int)) ⊕ ((List Int))) :=
 if 0 <= p39 ∧ p39.toNat < r23.2.length then
  (r23.2[p39.toNat]?).bind fun (x41:Int) =>
  if decide (x41 ≥ 0) = true then
   if 0 <= p39 ∧ p39.toNat < r23.2.length then
    (r23.2[p39.toNat]?).bind fun (x42:Int) =>
    if 0 <= x42 ∧ x42.toNat < r22.length then
     (r22[x42.toNat]?).bind fun (x43:aC) =>
     (eJ x43 p40 r37).bind fun (r44:(List Int)) =>
     if 0 <= p39 ∧ p39.toNat < r23.2.length then
      (r23.2[p39.toNat]?).bind fun (x45:Int) =>
      if 0 <= x45 ∧ x45.toNat < r22.length then
       (r22[x45.toNat]?).bind fun (x46:aC) =>
       some (.inl (x46.from_,r44))
      else none
     else none
    else none
   else none
  else
   some (.inr (p40))
 else none
def gV (a0:Int) (a1:List aI) (a3:List Int) (a4:Int) (r22:(List aC)) (r23:(List aD) × (List Int)) (r37 p39:Int) (p40:List Int):Option ((List Int)) :=
 dK (fun (w:Int × (List Int))=>eH a0 a1 a3 a4 r22 r23 r37 w.1 w.2) (p39,p40)
def cN (a0:Int) (a1:List aI) (a3:List Int) (a4:Int) (p5:List Int):Option (((List Int)) ⊕ (((List Int)) ⊕ ((List Int)))) :=
 if 0 <= a4 ∧ a4.toNat < p5.length then
  (p5[a4.toNat]?).bind fun (x6:Int) =>
  (at? a1 a4).bind fun (x7:aI) =>
  if decide (x6 < x7.Sum) = true then
   (fQ a1 p5).bind fun (r8:(List aC)) =>
   (lS a0 a1 a3 a4 p5 r8 0 []).bind fun (r15:(List aC)) =>
   if 0 <= a0 ∧ a0 <= a0 ∧ 8 * a0 <= 281474976710656 ∧ a0 <= 9223372036854775807 then
    (at? a1 a4).bind fun (x16:aI) =>
    if 0 <= x16.To ∧ x16.To.toNat < (List.replicate a0.toNat (0:Int)).length then
     ((List.replicate a0.toNat (0:Int))[x16.To.toNat]?).bind fun (x17:Int) =>
     (lX a0 a1 a3 a4 p5 r15 x16 0 r15).bind fun (r22:(List aC)) =>
     (fM a0 r22 ((List.replicate a0.toNat (0:Int)).set x16.To.toNat 1)).bind fun (r23:(List aD) × (List Int)) =>
     (at? a1 a4).bind fun (x24:aI) =>
     if 0 <= x24.From ∧ x24.From.toNat < r23.1.length then
      (r23.1[x24.From.toNat]?).bind fun (x25:aD) =>
      if (!(x25.fine)) = true then
       some (.inr (.inr (p5)))
      else
       (at? a1 a4).bind fun (x26:aI) =>
       if 0 <= a4 ∧ a4.toNat < p5.length then
        (p5[a4.toNat]?).bind fun (x27:Int) =>
        (at? a1 a4).bind fun (x28:aI) =>
        (gS a0 a1 a3 a4 p5 r22 r23 (IntKind.wrap .i64 (x26.Sum - x27)) x28.From).bind fun (r37:Int) =>
        (at? a1 a4).bind fun (x38:aI) =>
        (gV a0 a1 a3 a4 r22 r23 r37 x38.From p5).bind fun (r48:(List Int)) =>
        if 0 <= a4 ∧ a4.toNat < r48.length then
         (r48[a4.toNat]?).bind fun (x49:Int) =>
         if 0 <= a4 ∧ a4.toNat < r48.length then
          (r48[a4.toNat]?).bind fun (x50:Int) =>
          some (.inl (r48.set a4.toNat (IntKind.wrap .i64 (x49 + r37))))
         else none
        else none
       else none
     else none
    else none
   else none
  else
   some (.inr (.inl p5))
 else none
def pF (a0:Int) (a1:List aI) (a3:List Int) (a4:Int) (p5:List Int):Option (((List Int)) ⊕ ((List Int))) :=
 dK (fun (w:(List Int))=>cN a0 a1 a3 a4 w) p5
def mR (a0:Int) (a1:List aI) (a2 a3:List Int) (a4:Int):Option ((List Int)) :=
 (at? a1 a4).bind fun (x1:aI) =>
 (at? a3 x1.To).bind fun (x2:Int) =>
 (at? a1 a4).bind fun (x3:aI) =>
 (at? a3 x3.From).bind fun (x4:Int) =>
 if (x2 != (IntKind.wrap .i64 (x4 - 1))) = true then
  some a2
 else
  (pF a0 a1 a3 a4 a2).bind fun (r53:((List Int)) ⊕ ((List Int)))=>Sum.elim (fun z54 =>
  some z54) (fun z55 =>
  some z55) r53
def dA (a0:Int) (a1:List aI) (p2:Int) (p3:List Int):Option ((Int × (List Int)) ⊕ ((List Int))) :=
 if decide (p2 < (a1.length:Int)) = true then
  (at? a1 p2).bind fun (x4:aI) =>
  if 0 <= p2 ∧ p2.toNat < p3.length then
   (p3[p2.toNat]?).bind fun (x5:Int) =>
   some (.inl (IntKind.wrap .i64 (p2 + 1),p3.set p2.toNat x4.Sum))
  else none
 else
  some (.inr (p3))
def lR (a0:Int) (a1:List aI) (p2:Int) (p3:List Int):Option ((List Int)) :=
 dK (fun (w:Int × (List Int))=>dA a0 a1 w.1 w.2) (p2,p3)
def dO (a0:Int) (a1:List aI) (r9:(List Int)) (p10:Int) (p11:List Int):Option ((Int × (List Int)) ⊕ ((List Int))) :=
 if decide (p10 < (a1.length:Int)) = true then
  (mR a0 a1 p11 r9 p10).bind fun (r12:(List Int)) =>
  some (.inl (IntKind.wrap .i64 (p10 + 1),r12))
 else
  some (.inr (p11))
def lU (a0:Int) (a1:List aI) (r9:(List Int)) (p10:Int) (p11:List Int):Option ((List Int)) :=
 dK (fun (w:Int × (List Int))=>dO a0 a1 r9 w.1 w.2) (p10,p11)
def kW (a0:Int) (a1:List aI):Option ((List Int) × (List Int) × Int) :=
 (jA a0 a1).bind fun (r1:Bool) =>
 if (!(r1)) = true then
  some ([],[],1)
 else
  if 0 <= (a1.length:Int) ∧ (a1.length:Int) <= (a1.length:Int) ∧ 8 * (a1.length:Int) <= 281474976710656 ∧ (a1.length:Int) <= 9223372036854775807 then
   (lR a0 a1 0 (List.replicate ((a1.length:Int).toNat) (0:Int))).bind fun (r7:(List Int)) =>
   (kL a0 a1 r7).bind fun (r8:(List Int)) =>
   (eG a0 a1 r8).bind fun (r9:(List Int)) =>
   (lU a0 a1 r9 0 r8).bind fun (r14:(List Int)) =>
   (eG a0 a1 r14).bind fun (r15:(List Int)) =>
   some (r14,r15,0)
  else none
def d8 (a0:Int) (a1:List aE) (a2:List Int) (p1:Int) (p2:List aI) (p3:List Int):Option ((Int × (List aI) × (List Int)) ⊕ ((List aI) × (List Int))) :=
 if decide (p1 < (a1.length:Int)) = true then
  (at? a1 p1).bind fun (x4:aE) =>
  (qN x4 a2).bind fun (r5:Bool) =>
  if r5 = true then
   (vR x4).bind fun (r6:aI) =>
   if (p2.length + 1) * 24 <= 140737488355328 then
    if (p3.length + 1) * 8 <= 140737488355328 then
     some (.inl (IntKind.wrap .i64 (p1 + 1),p2 ++ [r6],p3 ++ [p1]))
    else none
   else none
  else
   some (.inl (IntKind.wrap .i64 (p1 + 1),p2,p3))
 else
  some (.inr ((p2,p3)))
def qQ (a0:Int) (a1:List aE) (a2:List Int) (p1:Int) (p2:List aI) (p3:List Int):Option ((List aI) × (List Int)) :=
 dK (fun (w:Int × (List aI) × (List Int))=>d8 a0 a1 a2 w.1 w.2.1 w.2.2) (p1,p2,p3)
def e9 (r10:(List Int) × (List Int) × Int) (r9:(List aI) × (List Int)) (p11:Int) (p12:List Int):Option ((Int × (List Int)) ⊕ ((List Int))) :=
 if decide (p11 < (r10.1.length:Int)) = true then
  (at? r10.1 p11).bind fun (x13:Int) =>
  if 0 <= p11 ∧ p11.toNat < r9.2.length then
   (r9.2[p11.toNat]?).bind fun (x14:Int) =>
   if 0 <= x14 ∧ x14.toNat < p12.length then
    (p12[x14.toNat]?).bind fun (x15:Int) =>
    some (.inl (IntKind.wrap .i64 (p11 + 1),p12.set x14.toNat x13))
   else none
  else none
 else
  some (.inr (p12))
def qS (r10:(List Int) × (List Int) × Int) (r9:(List aI) × (List Int)) (p11:Int) (p12:List Int):Option ((List Int)) :=
 dK (fun (w:Int × (List Int))=>e9 r10 r9 w.1 w.2) (p11,p12)
def mU (a0:Int) (a1:List aE) (a2:List Int):Option ((List Int) × (List Int)) :=
 (qQ a0 a1 a2 0 [] []).bind fun (r9:(List aI) × (List Int)) =>
 (kW a0 r9.1).bind fun (r10:(List Int) × (List Int) × Int) =>
 if 0 <= (a1.length:Int) ∧ (a1.length:Int) <= (a1.length:Int) ∧ 8 * (a1.length:Int) <= 281474976710656 ∧ (a1.length:Int) <= 9223372036854775807 then
  (qS r10 r9 0 (List.replicate ((a1.length:Int).toNat) (0:Int))).bind fun (r17:(List Int)) =>
  some (r17,r10.2.1)
 else none
def fT (a0:Int) (a1:List aE) (a2:List Int):Option ((List Int) × (List Int) × Int) :=
 (jV a0 a1).bind fun (r1:Int) =>
 if (r1 != 0) = true then
  some ([],[],1)
 else
  (nQ a2).bind fun (r2:Bool) =>
  if (!(r2)) = true then
   some ([],[],1)
  else
   (mU a0 a1 a2).bind fun (r3:(List Int) × (List Int)) =>
   some (r3.1,r3.2,0)
def n9 (a0:List aE) (p1:Int) (x3:aE) (p4:Int) (p5:List Int):Option ((Int × (List Int)) ⊕ ((List Int))) :=
 if decide (p4 < (x3.Rights.length:Int)) = true then
  (at? x3.Rights p4).bind fun (x6:aK) =>
  if (p5.length + 1) * 8 <= 140737488355328 then
   some (.inl (IntKind.wrap .i64 (p4 + 1),p5 ++ [x6.Owner]))
  else none
 else
  some (.inr (p5))
def xD (a0:List aE) (p1:Int) (x3:aE) (p4:Int) (p5:List Int):Option ((List Int)) :=
 dK (fun (w:Int × (List Int))=>n9 a0 p1 x3 w.1 w.2) (p4,p5)
def oF (a0:List aE) (p1:Int) (p2:List Int):Option ((Int × (List Int)) ⊕ ((List Int))) :=
 if decide (p1 < (a0.length:Int)) = true then
  (at? a0 p1).bind fun (x3:aE) =>
  (xD a0 p1 x3 0 p2).bind fun (r8:(List Int)) =>
  some (.inl (IntKind.wrap .i64 (p1 + 1),r8))
 else
  some (.inr (p2))
def wE (a0:List aE) (p1:Int) (p2:List Int):Option ((List Int)) :=
 dK (fun (w:Int × (List Int))=>oF a0 w.1 w.2) (p1,p2)
def oI (a0:List aE):Option ((List Int)) :=
 (wE a0 0 []).bind fun (r10:(List Int)) =>
 if r10.length < 4611686018427387904 then
  some (J5 (CN r10))
 else none
def lZ (a0:Int) (a1:List Int):Option (Bool) :=
 (cZ a1 a0).bind fun (r1:Bool) =>
 some r1
def dW (a0 a1:List Int) (p1:Int):Option ((Int) ⊕ (Unit ⊕ Int)) :=
 if decide (p1 < (a0.length:Int)) = true then
  (at? a0 p1).bind fun (x2:Int) =>
  (lZ x2 a1).bind fun (r3:Bool) =>
  if r3 = true then
   some (.inr (.inr (p1)))
  else
   some (.inl (IntKind.wrap .i64 (p1 + 1)))
 else
  some (.inr (.inl ()))
def gU (a0 a1:List Int) (p1:Int):Option (Unit ⊕ Int) :=
 dK (fun (w:Int)=>dW a0 a1 w) p1
def fJ (a0 a1:List Int):Option (Int) :=
 (gU a0 a1 0).bind fun (r5:Unit ⊕ Int)=>Sum.elim (fun z6 =>
 some (-1)) (fun z7 =>
 some z7) r5
def nK (a0:List Int) (p1 p2:Int):Option ((Int × Int) ⊕ (Int ⊕ Unit)) :=
 if decide (p2 < (a0.length:Int)) = true then
  (at? a0 p2).bind fun (x3:Int) =>
  if decide (x3 < 0) = true then
   some (.inr (.inr (())))
  else
   if decide (x3 > 1099511627776) = true then
    some (.inr (.inr (())))
   else
    some (.inl (IntKind.wrap .i64 (p1 + x3),IntKind.wrap .i64 (p2 + 1)))
 else
  some (.inr (.inl p1))
def u5 (a0:List Int) (p1 p2:Int):Option (Int ⊕ Unit) :=
 dK (fun (w:Int × Int)=>nK a0 w.1 w.2) (p1,p2)
def qU (a0:List Int):Option (Int) :=
 if decide ((a0.length:Int) > 100) = true then
  some 0
 else
  (u5 a0 0 0).bind fun (r5:Int ⊕ Unit)=>Sum.elim (fun z6 =>
  some z6) (fun z7 =>
  some 0) r5
def gJ (a0:List Int):Option ((List Int)):=if a0.length * 8 <= 140737488355328 then some a0 else none
def oC (a0:Int) (a1:List Int):Option (Bool) :=
 (cZ a1 a0).bind fun (r1:Bool) =>
 some (!(r1))
def dY (a0 a1:List Int) (p1:Int):Option ((Int) ⊕ (Unit ⊕ Int)) :=
 if decide (p1 < (a0.length:Int)) = true then
  (at? a0 p1).bind fun (x2:Int) =>
  (oC x2 a1).bind fun (r3:Bool) =>
  if r3 = true then
   some (.inr (.inr (p1)))
  else
   some (.inl (IntKind.wrap .i64 (p1 + 1)))
 else
  some (.inr (.inl ()))
def gY (a0 a1:List Int) (p1:Int):Option (Unit ⊕ Int) :=
 dK (fun (w:Int)=>dY a0 a1 w) p1
def fI (a0 a1:List Int):Option (Int) :=
 (gY a0 a1 0).bind fun (r5:Unit ⊕ Int)=>Sum.elim (fun z6 =>
 some (-1)) (fun z7 =>
 some z7) r5
def eR (a0 a1:List Int):Option (Bool) :=
 (fI a0 a1).bind fun (r1:Int) =>
 some (decide (r1 ≥ 0))
def wW (a0 a1:List Int):Option (Bool) :=
 (eR a0 a1).bind fun (r1:Bool) =>
 some (!(r1))
def pM (a0 a1:List Int):Option (Bool) :=
 (wW a0 a1).bind fun (r1:Bool) =>
 some r1
def dX (a0:List (List Int)) (a1:List Int) (p1:Int):Option ((Int) ⊕ (Unit ⊕ Int)) :=
 if decide (p1 < (a0.length:Int)) = true then
  (at? a0 p1).bind fun (x2:List Int) =>
  (pM x2 a1).bind fun (r3:Bool) =>
  if r3 = true then
   some (.inr (.inr (p1)))
  else
   some (.inl (IntKind.wrap .i64 (p1 + 1)))
 else
  some (.inr (.inl ()))
def gW (a0:List (List Int)) (a1:List Int) (p1:Int):Option (Unit ⊕ Int) :=
 dK (fun (w:Int)=>dX a0 a1 w) p1
def fG (a0:List (List Int)) (a1:List Int):Option (Int) :=
 (gW a0 a1 0).bind fun (r5:Unit ⊕ Int)=>Sum.elim (fun z6 =>
 some (-1)) (fun z7 =>
 some z7) r5
def eQ (a0:List (List Int)) (a1:List Int):Option (Bool) :=
 (fG a0 a1).bind fun (r1:Int) =>
 some (decide (r1 ≥ 0))
def qJ (a0:Int) (a1:List aE) (a2:List Int) (p5 p6:Int) (p7:List Int):Option ((Int × Int × (List Int)) ⊕ (Int × (List Int))) :=
 if decide (p6 < (p7.length:Int)) = true then
  if 0 <= p6 ∧ p6.toNat < p7.length then
   (p7[p6.toNat]?).bind fun (x8:Int) =>
   (lZ x8 a2).bind fun (r9:Bool) =>
   if (!(r9)) = true then
    if 0 <= p5 ∧ p5.toNat < p7.length then
     (p7[p5.toNat]?).bind fun (x10:Int) =>
     some (.inl (IntKind.wrap .i64 (p5 + 1),IntKind.wrap .i64 (p6 + 1),p7.set p5.toNat x8))
    else none
   else
    some (.inl (p5,IntKind.wrap .i64 (p6 + 1),p7))
  else none
 else
  some (.inr ((p5,p7)))
def xL (a0:Int) (a1:List aE) (a2:List Int) (p5 p6:Int) (p7:List Int):Option (Int × (List Int)) :=
 dK (fun (w:Int × Int × (List Int))=>qJ a0 a1 a2 w.1 w.2.1 w.2.2) (p5,p6,p7)
def pJ (a0:Int) (a1:List aE) (a2 p14:List Int) (p17:List (List Int)) (p18:Int) (p19:List (List Int)) (p20 r16:Int) (x22:List Int) (p25:Int) (p26:List (List Int)):Option ((Int × (List (List Int))) ⊕ ((List (List Int)))) :=
 if decide (p25 < (p14.length:Int)) = true then
  (gJ x22).bind fun (r27:(List Int)) =>
  if (r27.length + 1) * 8 <= 140737488355328 then
   if (p26.length + 1) * 24 <= 140737488355328 then
    some (.inl (IntKind.wrap .i64 (p25 + 1),p26 ++ [r27 ++ [p25]]))
   else none
  else none
 else
  some (.inr (p26))
def yC (a0:Int) (a1:List aE) (a2 p14:List Int) (p17:List (List Int)) (p18:Int) (p19:List (List Int)) (p20 r16:Int) (x22:List Int) (p25:Int) (p26:List (List Int)):Option ((List (List Int))) :=
 dK (fun (w:Int × (List (List Int)))=>pJ a0 a1 a2 p14 p17 p18 p19 p20 r16 x22 w.1 w.2) (p25,p26)
def sH (a0:Int) (a1:List aE) (a2 p14:List Int) (p17:List (List Int)) (p18:Int) (p19:List (List Int)) (p20:Int) (p21:List (List Int)) (r16:Int) (x22:List Int) (p24:Int):Option ((List (List Int))) :=
 (yC a0 a1 a2 p14 p17 p18 p19 p20 r16 x22 p24 p21).bind fun (r29:(List (List Int))) =>
 some (r29)
def pO (a0:Int) (a1:List aE) (a2 p14:List Int) (p17:List (List Int)) (p18:Int) (p19:List (List Int)) (r16 p20:Int) (p21:List (List Int)):Option ((Int × (List (List Int))) ⊕ ((List (List Int)))) :=
 if decide (p20 < (p17.length:Int)) = true then
  (at? p17 p20).bind fun (x22:List Int) =>
  if decide ((x22.length:Int) > 0) = true then
   (at? x22 (IntKind.wrap .i64 ((x22.length:Int) - 1))).bind fun (x23:Int) =>
   (sH a0 a1 a2 p14 p17 p18 p19 p20 p21 r16 x22 (IntKind.wrap .i64 (x23 + 1))).bind fun (r31:(List (List Int))) =>
   some (.inl (IntKind.wrap .i64 (p20 + 1),r31))
  else
   (sH a0 a1 a2 p14 p17 p18 p19 p20 p21 r16 x22 0).bind fun (r32:(List (List Int))) =>
   some (.inl (IntKind.wrap .i64 (p20 + 1),r32))
 else
  some (.inr (p21))
def xQ (a0:Int) (a1:List aE) (a2 p14:List Int) (p17:List (List Int)) (p18:Int) (p19:List (List Int)) (r16 p20:Int) (p21:List (List Int)):Option ((List (List Int))) :=
 dK (fun (w:Int × (List (List Int)))=>pO a0 a1 a2 p14 p17 p18 p19 r16 w.1 w.2) (p20,p21)
def qE (a0:Int) (a1:List aE) (a2 p14:List Int) (p18 p35:Int) (p36:List (List Int)) (r16:Int) (r34:(List (List Int))) (x37:List Int) (p38:Int) (p39:List Int):Option ((Int × (List Int)) ⊕ ((List Int))) :=
 if decide (p38 < (x37.length:Int)) = true then
  (at? x37 p38).bind fun (x40:Int) =>
  if 0 <= x40 ∧ x40.toNat < p14.length then
   (p14[x40.toNat]?).bind fun (x41:Int) =>
   if (p39.length + 1) * 8 <= 140737488355328 then
    some (.inl (IntKind.wrap .i64 (p38 + 1),p39 ++ [x41]))
   else none
  else none
 else
  some (.inr (p39))
def xR (a0:Int) (a1:List aE) (a2 p14:List Int) (p18 p35:Int) (p36:List (List Int)) (r16:Int) (r34:(List (List Int))) (x37:List Int) (p38:Int) (p39:List Int):Option ((List Int)) :=
 dK (fun (w:Int × (List Int))=>qE a0 a1 a2 p14 p18 p35 p36 r16 r34 x37 w.1 w.2) (p38,p39)
def pH (a0:Int) (a1:List aE) (a2 p14:List Int) (p18 r16:Int) (r34:(List (List Int))) (p35:Int) (p36:List (List Int)):Option ((Int × (List (List Int))) ⊕ ((List (List Int)))) :=
 if decide (p35 < (r34.length:Int)) = true then
  if 0 <= p35 ∧ p35.toNat < r34.length then
   (r34[p35.toNat]?).bind fun (x37:List Int) =>
   (xR a0 a1 a2 p14 p18 p35 p36 r16 r34 x37 0 []).bind fun (r43:(List Int)) =>
   (eQ p36 r43).bind fun (r44:Bool) =>
   if r44 = true then
    some (.inl (IntKind.wrap .i64 (p35 + 1),p36))
   else
    (gJ a2).bind fun (r45:(List Int)) =>
    if (r45.length + r43.length) * 8 <= 140737488355328 then
     (mU a0 a1 (r45 ++ r43)).bind fun (r46:(List Int) × (List Int)) =>
     (qU r46.1).bind fun (r47:Int) =>
     if decide (r47 > r16) = true then
      if (p36.length + 1) * 24 <= 140737488355328 then
       some (.inl (IntKind.wrap .i64 (p35 + 1),p36 ++ [r43]))
      else none
     else
      some (.inl (IntKind.wrap .i64 (p35 + 1),p36))
    else none
  else none
 else
  some (.inr (p36))
def xZ (a0:Int) (a1:List aE) (a2 p14:List Int) (p18 r16:Int) (r34:(List (List Int))) (p35:Int) (p36:List (List Int)):Option ((List (List Int))) :=
 dK (fun (w:Int × (List (List Int)))=>pH a0 a1 a2 p14 p18 r16 r34 w.1 w.2) (p35,p36)
def pV (a0:Int) (a1:List aE) (a2 p14:List Int) (r16:Int) (p17:List (List Int)) (p18:Int) (p19:List (List Int)):Option (((List (List Int)) × Int × (List (List Int))) ⊕ ((List (List Int)))) :=
 if decide (p18 < (p14.length:Int)) = true then
  (xQ a0 a1 a2 p14 p17 p18 p19 r16 0 []).bind fun (r34:(List (List Int))) =>
  (xZ a0 a1 a2 p14 p18 r16 r34 0 p19).bind fun (r49:(List (List Int))) =>
  some (.inl (r34,IntKind.wrap .i64 (p18 + 1),r49))
 else
  some (.inr (p19))
def xK (a0:Int) (a1:List aE) (a2 p14:List Int) (r16:Int) (p17:List (List Int)) (p18:Int) (p19:List (List Int)):Option ((List (List Int))) :=
 dK (fun (w:(List (List Int)) × Int × (List (List Int)))=>pV a0 a1 a2 p14 r16 w.1 w.2.1 w.2.2) (p17,p18,p19)
def sE (a0:Int) (a1:List aE) (a2 p14:List Int):Option (Int × (List (List Int))) :=
 if decide ((p14.length:Int) > 8) = true then
  some ((6,[]))
 else
  (mU a0 a1 a2).bind fun (r15:(List Int) × (List Int)) =>
  (qU r15.1).bind fun (r16:Int) =>
  (xK a0 a1 a2 p14 r16 [[]] 0 []).bind fun (r51:(List (List Int))) =>
  some ((0,r51))
def nR (a0:Int) (a1:List aE) (a2:List Int):Option ((List (List Int)) × Int) :=
 (jV a0 a1).bind fun (r1:Int) =>
 if (r1 != 0) = true then
  some ([],1)
 else
  (nQ a2).bind fun (r2:Bool) =>
  if (!(r2)) = true then
   some ([],1)
  else
   (oI a1).bind fun (r3:(List Int)) =>
   (fJ r3 a2).bind fun (r4:Int) =>
   if (r4 == (-1)) = true then
    (sE a0 a1 a2 r3).bind fun (r54:Int × (List (List Int))) =>
    some (r54.2,r54.1)
   else
    (xL a0 a1 a2 r4 (IntKind.wrap .i64 (r4 + 1)) r3).bind fun (r13:Int × (List Int)) =>
    if 0 <= r13.1 ∧ r13.1.toNat <= r13.2.length then
     if 0 <= r13.1 ∧ r13.1.toNat <= (B3 r13.1.toNat r13.2).length then
      (sE a0 a1 a2 ((B3 r13.1.toNat r13.2).take r13.1.toNat)).bind fun (r55:Int × (List (List Int))) =>
      some (r55.2,r55.1)
     else none
    else none
def dF (a0:List aE) (a1:List Int) (a2 a3 p1:Int) (p2:List Int) (p3:List aW):Option ((Int × (List Int) × (List aW)) ⊕ ((List Int) × (List aW))) :=
 if decide (p1 < (a0.length:Int)) = true then
  (at? a0 p1).bind fun (x4:aE) =>
  (at? a1 p1).bind fun (x5:Int) =>
  if decide (x5 > 0) = true then
   if (p2.length + 1) * 8 <= 140737488355328 then
    (at? a1 p1).bind fun (x6:Int) =>
    if (p3.length + 1) * 72 <= 140737488355328 then
     some (.inl (IntKind.wrap .i64 (p1 + 1),p2 ++ [x4.File],p3 ++ [(aW.mk 6 x4.From x4.To x4.Part x4.Sign x6 a2 a3 0)]))
    else none
   else none
  else
   some (.inl (IntKind.wrap .i64 (p1 + 1),p2,p3))
 else
  some (.inr ((p2,p3)))
def kX (a0:List aE) (a1:List Int) (a2 a3 p1:Int) (p2:List Int) (p3:List aW):Option ((List Int) × (List aW)) :=
 dK (fun (w:Int × (List Int) × (List aW))=>dF a0 a1 a2 a3 w.1 w.2.1 w.2.2) (p1,p2,p3)
def jS (a0:List aE) (a1:List Int) (a2 a3:Int):Option ((List Int) × (List aW)) :=
 if ((a1.length:Int) != (a0.length:Int)) = true then
  some ([],[])
 else
  (kX a0 a1 a2 a3 0 [] []).bind fun (r9:(List Int) × (List aW)) =>
  some (r9.1,r9.2)
def kP (a0 a1:List Int) (p1:Int):Option ((Int) ⊕ (Unit ⊕ Unit)) :=
 if decide (p1 < (a0.length:Int)) = true then
  (at? a0 p1).bind fun (x2:Int) =>
  (at? a1 p1).bind fun (x3:Int) =>
  if (x2 != x3) = true then
   some (.inr (.inr (())))
  else
   some (.inl (IntKind.wrap .i64 (p1 + 1)))
 else
  some (.inr (.inl ()))
def rC (a0 a1:List Int) (p1:Int):Option (Unit ⊕ Unit) :=
 dK (fun (w:Int)=>kP a0 a1 w) p1
def gT (a0 a1:List Int):Option (Bool) :=
 if ((a0.length:Int) != (a1.length:Int)) = true then
  some false
 else
  (rC a0 a1 0).bind fun (r4:Unit ⊕ Unit)=>Sum.elim (fun z5 =>
  some true) (fun z6 =>
  some false) r4
def jI (a0 a1:List Int) (p1:Int):Option ((Int) ⊕ (Unit ⊕ Bool)) :=
 if decide (p1 < (a0.length:Int)) = true then
  (at? a0 p1).bind fun (x2:Int) =>
  (at? a1 p1).bind fun (x3:Int) =>
  if (x2 != x3) = true then
   (at? a0 p1).bind fun (x4:Int) =>
   (at? a1 p1).bind fun (x5:Int) =>
   some (.inr (.inr (decide (x4 < x5))))
  else
   some (.inl (IntKind.wrap .i64 (p1 + 1)))
 else
  some (.inr (.inl ()))
def oO (a0 a1:List Int) (p1:Int):Option (Unit ⊕ Bool) :=
 dK (fun (w:Int)=>jI a0 a1 w) p1
def jZ (a0 a1:List Int):Option (Bool) :=
 if ((a0.length:Int) != (a1.length:Int)) = true then
  some (decide ((a0.length:Int) < (a1.length:Int)))
 else
  (oO a0 a1 0).bind fun (r7:Unit ⊕ Bool)=>Sum.elim (fun z8 =>
  some false) (fun z9 =>
  some z9) r7
def gP (a0 a1:List (List Int)) (p1:Int):Option ((Int) ⊕ (Unit ⊕ Unit)) :=
 if decide (p1 < (a0.length:Int)) = true then
  (at? a0 p1).bind fun (x2:List Int) =>
  (at? a1 p1).bind fun (x3:List Int) =>
  (jZ x2 x3).bind fun (r4:Bool) =>
  if r4 = true then
   some (.inr (.inr (())))
  else
   (at? a1 p1).bind fun (x5:List Int) =>
   (at? a0 p1).bind fun (x6:List Int) =>
   (jZ x5 x6).bind fun (r7:Bool) =>
   if r7 = true then
    some (.inr (.inr (())))
   else
    some (.inl (IntKind.wrap .i64 (p1 + 1)))
 else
  some (.inr (.inl ()))
def l9 (a0 a1:List (List Int)) (p1:Int):Option (Unit ⊕ Unit) :=
 dK (fun (w:Int)=>gP a0 a1 w) p1
def iD (a0 a1:List (List Int)):Option (Bool) :=
 if ((a0.length:Int) != (a1.length:Int)) = true then
  some false
 else
  (l9 a0 a1 0).bind fun (r8:Unit ⊕ Unit)=>Sum.elim (fun z9 =>
  some true) (fun z10 =>
  some false) r8
def qP (a0:List aE) (a1 a2:List Int) (p1:Int):Option ((Int) ⊕ (Unit ⊕ Unit)) :=
 if decide (p1 < (a0.length:Int)) = true then
  (at? a0 p1).bind fun (x2:aE) =>
  (at? a1 p1).bind fun (x3:Int) =>
  if (x3 != 0) = true then
   (qN x2 a2).bind fun (r4:Bool) =>
   if (!(r4)) = true then
    some (.inr (.inr (())))
   else
    some (.inl (IntKind.wrap .i64 (p1 + 1)))
  else
   some (.inl (IntKind.wrap .i64 (p1 + 1)))
 else
  some (.inr (.inl ()))
def xM (a0:List aE) (a1 a2:List Int) (p1:Int):Option (Unit ⊕ Unit) :=
 dK (fun (w:Int)=>qP a0 a1 a2 w) p1
def tV (a0:List aE) (a1 a2:List Int):Option (Bool) :=
 if ((a1.length:Int) != (a0.length:Int)) = true then
  some false
 else
  (xM a0 a1 a2 0).bind fun (r5:Unit ⊕ Unit)=>Sum.elim (fun z6 =>
  some true) (fun z7 =>
  some false) r5
def i5 (p12:Bool) (r1:(List aE)) (r3:(List Int) × (List Int) × Int) (r8:(List Int) × (List aW)) (p15:Bool):Option (Bool) :=
 if p12 = true then
  if p15 = true then
   (at? r8.2 1).bind fun (x16:aW) =>
   if ((x16.Kind == 6) && ((x16.Who == 1) && ((x16.To == 0) && ((x16.Part == 0) && ((x16.At == 0) && ((x16.Sum == 2) && ((x16.Day == 9) && ((x16.City == 0) && (x16.Form == 0))))))))) = true then
    (oI r1).bind fun (r17:(List Int)) =>
    (gT r17 [1,7]).bind fun (r18:Bool) =>
    if r18 = true then
     (tV r1 r3.1 [1]).bind fun (r19:Bool) =>
     if r19 = true then
      (tV r1 r3.1 [7]).bind fun (r20:Bool) =>
      if (!(r20)) = true then
       (jV 3 r1).bind fun (r21:Int) =>
       if (r21 == 0) = true then
        (jV 2 r1).bind fun (r22:Int) =>
        some (r22 == 1)
       else
        some (false)
      else
       some (false)
     else
      some (false)
    else
     some (false)
   else
    some (false)
  else
   some (false)
 else
  some (false)
def iU (r1:(List aE)) (r3:(List Int) × (List Int) × Int) (r5 r6 r7:(List (List Int)) × Int) (r8:(List Int) × (List aW)) (p12:Bool):Option (Bool) :=
 (iD r5.1 [[1],[7]]).bind fun (r13:Bool) =>
 if r13 = true then
  (iD r6.1 [[7]]).bind fun (r14:Bool) =>
  if r14 = true then
   (i5 p12 r1 r3 r8 ((r7.1.length:Int) == 0)).bind fun (r24:Bool) =>
   some (r24)
  else
   (i5 p12 r1 r3 r8 false).bind fun (r25:Bool) =>
   some (r25)
 else
  (i5 p12 r1 r3 r8 false).bind fun (r26:Bool) =>
  some (r26)
def gC:Option (Bool) :=
 (mC).bind fun (r1:(List aE)) =>
 (fT 3 r1 []).bind fun (r2:(List Int) × (List Int) × Int) =>
 (fT 3 r1 [1]).bind fun (r3:(List Int) × (List Int) × Int) =>
 (fT 3 r1 [1,7]).bind fun (r4:(List Int) × (List Int) × Int) =>
 (nR 3 r1 []).bind fun (r5:(List (List Int)) × Int) =>
 (nR 3 r1 [1]).bind fun (r6:(List (List Int)) × Int) =>
 (nR 3 r1 [1,7]).bind fun (r7:(List (List Int)) × Int) =>
 (jS r1 r3.1 9 0).bind fun (r8:(List Int) × (List aW)) =>
 if (r2.2.2 != 0) = true then
  some false
 else
  if (r3.2.2 != 0) = true then
   some false
  else
   if (r4.2.2 != 0) = true then
    some false
   else
    if (r5.2 != 0) = true then
     some false
    else
     if (r6.2 != 0) = true then
      some false
     else
      if (r7.2 != 0) = true then
       some false
      else
       if ((r8.1.length:Int) != 2) = true then
        some false
       else
        if ((r8.2.length:Int) != 2) = true then
         some false
        else
         (gT r2.1 [0,0,0,0]).bind fun (r9:Bool) =>
         if r9 = true then
          (gT r3.1 [2,0,0,2]).bind fun (r10:Bool) =>
          if r10 = true then
           (gT r4.1 [5,5,5,0]).bind fun (r11:Bool) =>
           (iU r1 r3 r5 r6 r7 r8 r11).bind fun (r28:Bool) =>
           some r28
          else
           (iU r1 r3 r5 r6 r7 r8 false).bind fun (r29:Bool) =>
           some r29
         else
          (iU r1 r3 r5 r6 r7 r8 false).bind fun (r30:Bool) =>
          some r30
def b9 (a0:List aE) (p1:Int) (p2:List aI):Option ((Int × (List aI)) ⊕ ((List aI))) :=
 if decide (p1 < (a0.length:Int)) = true then
  (at? a0 p1).bind fun (x3:aE) =>
  (at? a0 p1).bind fun (x4:aE) =>
  (at? a0 p1).bind fun (x5:aE) =>
  if (p2.length + 1) * 24 <= 140737488355328 then
   some (.inl (IntKind.wrap .i64 (p1 + 1),p2 ++ [(aI.mk x3.From x4.To x5.Sum)]))
  else none
 else
  some (.inr (p2))
def mE (a0:List aE) (p1:Int) (p2:List aI):Option ((List aI)) :=
 dK (fun (w:Int × (List aI))=>b9 a0 w.1 w.2) (p1,p2)
def jT (a0:List aE):Option ((List aI)) :=
 (mE a0 0 []).bind fun (r7:(List aI)) =>
 some r7
def bR (a0:Int) (a1:List aI) (p1:Int):Option ((Int) ⊕ (Unit ⊕ Unit)) :=
 if decide (p1 < (a1.length:Int)) = true then
  if decide (p1 < 20) = true then
   (at? a1 p1).bind fun (x2:aI) =>
   if decide (x2.Sum > 12) = true then
    (at? a1 p1).bind fun (x3:aI) =>
    if decide (x3.Sum <= 1099511627776) = true then
     some (.inr (.inr (())))
    else
     some (.inl (IntKind.wrap .i64 (p1 + 1)))
   else
    some (.inl (IntKind.wrap .i64 (p1 + 1)))
  else
   some (.inr (.inl ()))
 else
  some (.inr (.inl ()))
def j8 (a0:Int) (a1:List aI) (p1:Int):Option (Unit ⊕ Unit) :=
 dK (fun (w:Int)=>bR a0 a1 w) p1
def kQ (a0:Int) (a1:List aI):Option (Bool) :=
 (j8 a0 a1 0).bind fun (r4:Unit ⊕ Unit)=>Sum.elim (fun z5 =>
 if decide (a0 <= 6) = true then
   if decide ((a1.length:Int) <= 9) = true then
    some true
   else
    if decide ((a1.length:Int) > 100) = true then
     some (decide ((a1.length:Int) < 200))
    else
     some false
  else
   if decide (a0 > 40) = true then
    if decide ((a1.length:Int) <= 9) = true then
     some true
    else
     if decide ((a1.length:Int) > 100) = true then
      some (decide ((a1.length:Int) < 200))
     else
      some false
   else
    some false) (fun z6 =>
 some false) r4
def cY (a0:List Int) (a1 p1:Int):Option ((Int) ⊕ (Unit ⊕ Unit)) :=
 if decide (p1 < (a0.length:Int)) = true then
  (at? a0 p1).bind fun (x2:Int) =>
  if (x2 == a1) = true then
   some (.inr (.inr (())))
  else
   some (.inl (IntKind.wrap .i64 (p1 + 1)))
 else
  some (.inr (.inl ()))
def m9 (a0:List Int) (a1 p1:Int):Option (Unit ⊕ Unit) :=
 dK (fun (w:Int)=>cY a0 a1 w) p1
def kK (a0:List Int) (a1:Int):Option (Bool) :=
 (m9 a0 a1 0).bind fun (r3:Unit ⊕ Unit)=>Sum.elim (fun z4 =>
 some false) (fun z5 =>
 some true) r3
def fN (a0:List Int) (a1 p3:Int) (p6:Bool) (p7:List Int):Option ((List Int)) :=
 (at? a0 p3).bind fun (x8:Int) =>
 if (p7.length + 1) * 8 <= 140737488355328 then
  some (p7 ++ [x8])
 else none
def bE (a0:List Int) (a1:Int) (p2:Bool) (p3:Int) (p4:List Int):Option ((Bool × Int × (List Int)) ⊕ (Bool × (List Int))) :=
 if decide (p3 < (a0.length:Int)) = true then
  if (!(p2)) = true then
   (at? a0 p3).bind fun (x5:Int) =>
   if decide (a1 < x5) = true then
    if (p4.length + 1) * 8 <= 140737488355328 then
     (fN a0 a1 p3 true (p4 ++ [a1])).bind fun (r10:(List Int)) =>
     some (.inl (true,IntKind.wrap .i64 (p3 + 1),r10))
    else none
   else
    (fN a0 a1 p3 p2 p4).bind fun (r11:(List Int)) =>
    some (.inl (p2,IntKind.wrap .i64 (p3 + 1),r11))
  else
   (fN a0 a1 p3 p2 p4).bind fun (r12:(List Int)) =>
   some (.inl (p2,IntKind.wrap .i64 (p3 + 1),r12))
 else
  some (.inr ((p2,p4)))
def nB (a0:List Int) (a1:Int) (p2:Bool) (p3:Int) (p4:List Int):Option (Bool × (List Int)) :=
 dK (fun (w:Bool × Int × (List Int))=>bE a0 a1 w.1 w.2.1 w.2.2) (p2,p3,p4)
def kJ (a0:List Int) (a1:Int):Option ((List Int)) :=
 (kK a0 a1).bind fun (r1:Bool) =>
 if r1 = true then
  some a0
 else
  (nB a0 a1 false 0 []).bind fun (r15:Bool × (List Int)) =>
  if (!(r15.1)) = true then
   if (r15.2.length + 1) * 8 <= 140737488355328 then
    some (r15.2 ++ [a1])
   else none
  else
   some r15.2
def cA (a0:List aE) (p2:Int) (p3:List Int) (p4:Int):Option (((List Int) × Int) ⊕ ((List Int))) :=
 (at? a0 p2).bind fun (x5:aE) =>
 if decide (p4 < (x5.Rights.length:Int)) = true then
  (at? a0 p2).bind fun (x6:aE) =>
  (at? x6.Rights p4).bind fun (x7:aK) =>
  (kJ p3 x7.Owner).bind fun (r8:(List Int)) =>
  some (.inl (r8,IntKind.wrap .i64 (p4 + 1)))
 else
  some (.inr (p3))
def hU (a0:List aE) (p2:Int) (p3:List Int) (p4:Int):Option ((List Int)) :=
 dK (fun (w:(List Int) × Int)=>cA a0 p2 w.1 w.2) (p3,p4)
def bS (a0:List aE) (p1:List Int) (p2:Int):Option (((List Int) × Int) ⊕ ((List Int))) :=
 if decide (p2 < (a0.length:Int)) = true then
  (hU a0 p2 p1 0).bind fun (r10:(List Int)) =>
  some (.inl (r10,IntKind.wrap .i64 (p2 + 1)))
 else
  some (.inr (p1))
def kI (a0:List aE) (p1:List Int) (p2:Int):Option ((List Int)) :=
 dK (fun (w:(List Int) × Int)=>bS a0 w.1 w.2) (p1,p2)
def iA (a0:List aE):Option ((List Int)) :=
 (kI a0 [] 0).bind fun (r12:(List Int)) =>
 some r12
def cH (a0:Int) (a1:List aE) (p1:Int):Option ((Int) ⊕ (Unit ⊕ Unit)) :=
 if decide (p1 < (a1.length:Int)) = true then
  (at? a1 p1).bind fun (x2:aE) =>
  if decide ((x2.Rights.length:Int) > 12) = true then
   some (.inr (.inr (())))
  else
   some (.inl (IntKind.wrap .i64 (p1 + 1)))
 else
  some (.inr (.inl ()))
def nL (a0:Int) (a1:List aE) (p1:Int):Option (Unit ⊕ Unit) :=
 dK (fun (w:Int)=>cH a0 a1 w) p1
def kG (a0:Int) (a1:List aE):Option (Bool) :=
 (nL a0 a1 0).bind fun (r3:Unit ⊕ Unit)=>Sum.elim (fun z4 =>
 if decide ((a1.length:Int) <= 9) = true then
   (jT a1).bind fun (r6:(List aI)) =>
   (kQ a0 r6).bind fun (r7:Bool) =>
   if r7 = true then
    (iA a1).bind fun (r8:(List Int)) =>
    some (decide ((r8.length:Int) <= 4))
   else
    some false
  else
   some false) (fun z5 =>
 some false) r3
def dH (a0:List aG):Option ((List aG)):=if a0.length * 72 <= 140737488355328 then some a0 else none
def BE (a0:aW) (a1:Bool) (a2:aG):Option (Bool) :=
 if (a2.Creditor == a0.To) = true then
  some true
 else
  if (a2.Creditor == (-1)) = true then
   some a1
  else
   some false
def fS (a0:List aG) (a1:aW) (a2:Int) (a3:Bool) (p2:Int) (p3:List aU) (p4:List aG):Option ((Int × (List aU) × (List aG)) ⊕ ((List aU) × (List aG))) :=
 if decide (p2 < (a0.length:Int)) = true then
  (at? a0 p2).bind fun (x5:aG) =>
  (BE a1 a3 x5).bind fun (r6:Bool) =>
  if (!(r6)) = true then
   some (.inl (IntKind.wrap .i64 (p2 + 1),p3,p4))
  else
   if 0 <= p2 ∧ p2.toNat < p4.length then
    (p4[p2.toNat]?).bind fun (x7:aG) =>
    if (p3.length + 1) * 32 <= 140737488355328 then
     if (a2 != 1) = true then
      if (x5.Turn == 0) = true then
       if (x5.Debtor != a1.Who) = true then
        none
       else
        some (.inl (IntKind.wrap .i64 (p2 + 1),p3 ++ [(aU.mk x5.Debtor x5.Creditor x5.Sign (if (if x5.Sum > 0 then x5.Sum else 0) < (if a1.Sum > 0 then a1.Sum else 0) then (if x5.Sum > 0 then x5.Sum else 0) else (if a1.Sum > 0 then a1.Sum else 0)))],p4.set p2.toNat (aG.mk x7.Debtor x7.Creditor x7.Part x7.Sign x7.By x7.Turn (IntKind.wrap .i64 ((if x5.Sum > 0 then x5.Sum else 0) - (if (if x5.Sum > 0 then x5.Sum else 0) < (if a1.Sum > 0 then a1.Sum else 0) then (if x5.Sum > 0 then x5.Sum else 0) else (if a1.Sum > 0 then a1.Sum else 0)))) x7.Currency x7.State)))
      else
       if decide (x5.Sign < a1.At) = true then
        if (x5.Debtor != a1.Who) = true then
         none
        else
         some (.inl (IntKind.wrap .i64 (p2 + 1),p3 ++ [(aU.mk x5.Debtor x5.Creditor x5.Sign (if (if x5.Sum > 0 then x5.Sum else 0) < (if a1.Sum > 0 then a1.Sum else 0) then (if x5.Sum > 0 then x5.Sum else 0) else (if a1.Sum > 0 then a1.Sum else 0)))],p4.set p2.toNat (aG.mk x7.Debtor x7.Creditor x7.Part x7.Sign x7.By x7.Turn (IntKind.wrap .i64 ((if x5.Sum > 0 then x5.Sum else 0) - (if (if x5.Sum > 0 then x5.Sum else 0) < (if a1.Sum > 0 then a1.Sum else 0) then (if x5.Sum > 0 then x5.Sum else 0) else (if a1.Sum > 0 then a1.Sum else 0)))) x7.Currency x7.State)))
       else
        some (.inl (IntKind.wrap .i64 (p2 + 1),p3 ++ [(aU.mk x5.Debtor x5.Creditor x5.Sign (if (if x5.Sum > 0 then x5.Sum else 0) < (if a1.Sum > 0 then a1.Sum else 0) then (if x5.Sum > 0 then x5.Sum else 0) else (if a1.Sum > 0 then a1.Sum else 0)))],p4.set p2.toNat (aG.mk x7.Debtor x7.Creditor x7.Part x7.Sign x7.By x7.Turn (IntKind.wrap .i64 ((if x5.Sum > 0 then x5.Sum else 0) - (if (if x5.Sum > 0 then x5.Sum else 0) < (if a1.Sum > 0 then a1.Sum else 0) then (if x5.Sum > 0 then x5.Sum else 0) else (if a1.Sum > 0 then a1.Sum else 0)))) x7.Currency x7.State)))
     else
      some (.inl (IntKind.wrap .i64 (p2 + 1),p3 ++ [(aU.mk x5.Debtor x5.Creditor x5.Sign (if (if x5.Sum > 0 then x5.Sum else 0) < (if a1.Sum > 0 then a1.Sum else 0) then (if x5.Sum > 0 then x5.Sum else 0) else (if a1.Sum > 0 then a1.Sum else 0)))],p4.set p2.toNat (aG.mk x7.Debtor x7.Creditor x7.Part x7.Sign x7.By x7.Turn (IntKind.wrap .i64 ((if x5.Sum > 0 then x5.Sum else 0) - (if (if x5.Sum > 0 then x5.Sum else 0) < (if a1.Sum > 0 then a1.Sum else 0) then (if x5.Sum > 0 then x5.Sum else 0) else (if a1.Sum > 0 then a1.Sum else 0)))) x7.Currency x7.State)))
    else none
   else none
 else
  some (.inr ((p3,p4)))
def tU (a0:List aG) (a1:aW) (a2:Int) (a3:Bool) (p2:Int) (p3:List aU) (p4:List aG):Option ((List aU) × (List aG)) :=
 dK (fun (w:Int × (List aU) × (List aG))=>fS a0 a1 a2 a3 w.1 w.2.1 w.2.2) (p2,p3,p4)
def mQ (r10:(List aU) × (List aG)):Option ((Unit) ⊕ (Unit)) :=
 if decide (0 < 0) = true then
  none
 else
  some (.inr (()))
def uC (r10:(List aU) × (List aG)):Option (Unit) :=
 dK (fun (w:Unit)=>mQ r10) ()
def xV (a0:List aG) (a1:aW) (a2:Int) (a3:Bool):Option ((List aG) × (List aU)) :=
 (dH a0).bind fun (r1:(List aG)) =>
 (tU a0 a1 a2 a3 0 [] r1).bind fun (r10:(List aU) × (List aG)) =>
 (uC r10).bind fun (r11:Unit) =>
 some (r10.2,r10.1)
def bG (a0 a1:List aG) (p1:Int):Option ((Int) ⊕ (Unit ⊕ Unit)) :=
 if decide (p1 < (a0.length:Int)) = true then
  (at? a0 p1).bind fun (x2:aG) =>
  (at? a1 p1).bind fun (x3:aG) =>
  if (!((x2.Debtor == x3.Debtor) && ((x2.Creditor == x3.Creditor) && ((x2.Part == x3.Part) && ((x2.Sign == x3.Sign) && ((x2.By == x3.By) && ((x2.Turn == x3.Turn) && ((x2.Sum == x3.Sum) && ((x2.Currency == x3.Currency) && (x2.State == x3.State)))))))))) = true then
   some (.inr (.inr (())))
  else
   some (.inl (IntKind.wrap .i64 (p1 + 1)))
 else
  some (.inr (.inl ()))
def iF (a0 a1:List aG) (p1:Int):Option (Unit ⊕ Unit) :=
 dK (fun (w:Int)=>bG a0 a1 w) p1
def eZ (a0 a1:List aG):Option (Bool) :=
 if ((a0.length:Int) != (a1.length:Int)) = true then
  some false
 else
  (iF a0 a1 0).bind fun (r4:Unit ⊕ Unit)=>Sum.elim (fun z5 =>
  some true) (fun z6 =>
  some false) r4
def bD (a0:List Int) (p1 p2:Int):Option ((Int × Int) ⊕ (Int ⊕ Unit)) :=
 if decide (p2 < (a0.length:Int)) = true then
  (at? a0 p2).bind fun (x3:Int) =>
  if decide (x3 < 0) = true then
   some (.inr (.inr (())))
  else
   (at? a0 p2).bind fun (x4:Int) =>
   if decide (x4 > 1099511627776) = true then
    some (.inr (.inr (())))
   else
    if decide ((a0.length:Int) > 100) = true then
     some (.inr (.inr (())))
    else
     (at? a0 p2).bind fun (x5:Int) =>
     some (.inl (IntKind.wrap .i64 (p1 + x5),IntKind.wrap .i64 (p2 + 1)))
 else
  some (.inr (.inl p1))
def lH (a0:List Int) (p1 p2:Int):Option (Int ⊕ Unit) :=
 dK (fun (w:Int × Int)=>bD a0 w.1 w.2) (p1,p2)
def i8 (a0:List Int):Option (Int) :=
 (lH a0 0 0).bind fun (r7:Int ⊕ Unit)=>Sum.elim (fun z8 =>
 some z8) (fun z9 =>
 some 0) r7
def bO (a0:Int) (a1:List aE) (a3:Int) (r1:Bool) (r3:(List Int) × (List Int) × Int) (r4:(List Int) × (List aW)) (p5 p6:Int):Option ((Int × Int) ⊕ (Int ⊕ Unit)) :=
 if decide (p6 < (a1.length:Int)) = true then
  (at? a1 p6).bind fun (x7:aE) =>
  (at? a1 p6).bind fun (x8:aE) =>
  (at? a1 p6).bind fun (x9:aE) =>
  (at? a1 p6).bind fun (x10:aE) =>
  (at? a1 p6).bind fun (x11:aE) =>
  (at? r3.1 p6).bind fun (x12:Int) =>
  (at? r3.1 p6).bind fun (x13:Int) =>
  if (x13 == 0) = true then
   some (.inl (p5,IntKind.wrap .i64 (p6 + 1)))
  else
   if decide (p5 ≥ (r4.2.length:Int)) = true then
    some (.inr (.inr (())))
   else
    (at? r4.1 p5).bind fun (x14:Int) =>
    (at? a1 p6).bind fun (x15:aE) =>
    if (x14 != x15.File) = true then
     some (.inr (.inr (())))
    else
     (at? r4.2 p5).bind fun (x16:aW) =>
     (at? a1 p6).bind fun (x17:aE) =>
     if (x16.At != x17.Sign) = true then
      some (.inr (.inr (())))
     else
      (at? r4.2 p5).bind fun (x18:aW) =>
      (at? a1 p6).bind fun (x19:aE) =>
      if (x18.Part != x19.Part) = true then
       some (.inr (.inr (())))
      else
       (at? r4.2 p5).bind fun (x20:aW) =>
       if (x20.Day != a3) = true then
        some (.inr (.inr (())))
       else
        (at? r4.2 p5).bind fun (x21:aW) =>
        (xV [(aG.mk x7.From x8.To 0 x9.Sign (-1) 0 x10.Sum 0 1)] x21 1 false).bind fun (r22:(List aG) × (List aU)) =>
        (eZ r22.1 [(aG.mk x7.From x8.To 0 x9.Sign (-1) 0 (IntKind.wrap .i64 (x11.Sum - x12)) 0 1)]).bind fun (r23:Bool) =>
        if (!(r23)) = true then
         some (.inr (.inr (())))
        else
         if ((r22.2.length:Int) != 1) = true then
          some (.inr (.inr (())))
         else
          (at? r22.2 0).bind fun (x24:aU) =>
          (at? r3.1 p6).bind fun (x25:Int) =>
          if (x24.Sum != x25) = true then
           some (.inr (.inr (())))
          else
           some (.inl (IntKind.wrap .i64 (p5 + 1),IntKind.wrap .i64 (p6 + 1)))
 else
  some (.inr (.inl p5))
def dR (a0:Int) (a1:List aE) (a3:Int) (r1:Bool) (r3:(List Int) × (List Int) × Int) (r4:(List Int) × (List aW)) (p5 p6:Int):Option (Int ⊕ Unit) :=
 dK (fun (w:Int × Int)=>bO a0 a1 a3 r1 r3 r4 w.1 w.2) (p5,p6)
def dQ (a0 p30 p32:Int) (r1:Bool) (r3:(List Int) × (List Int) × Int) (r4:(List Int) × (List aW)) (z28 p35:Int):Option (Int) :=
 (at? r4.2 p32).bind fun (x36:aW) =>
 if (x36.Who == p30) = true then
  (at? r4.2 p32).bind fun (x37:aW) =>
  some (IntKind.wrap .i64 (p35 - x37.Sum))
 else
  some (p35)
def bN (a0 p30:Int) (r1:Bool) (r3:(List Int) × (List Int) × Int) (r4:(List Int) × (List aW)) (z28 p31 p32:Int):Option ((Int × Int) ⊕ (Int)) :=
 if decide (p32 < (r4.2.length:Int)) = true then
  (at? r4.2 p32).bind fun (x33:aW) =>
  if (x33.To == p30) = true then
   (at? r4.2 p32).bind fun (x34:aW) =>
   (dQ a0 p30 p32 r1 r3 r4 z28 (IntKind.wrap .i64 (p31 + x34.Sum))).bind fun (r39:Int) =>
   some (.inl (r39,IntKind.wrap .i64 (p32 + 1)))
  else
   (dQ a0 p30 p32 r1 r3 r4 z28 p31).bind fun (r40:Int) =>
   some (.inl (r40,IntKind.wrap .i64 (p32 + 1)))
 else
  some (.inr (p31))
def dT (a0 p30:Int) (r1:Bool) (r3:(List Int) × (List Int) × Int) (r4:(List Int) × (List aW)) (z28 p31 p32:Int):Option (Int) :=
 dK (fun (w:Int × Int)=>bN a0 p30 r1 r3 r4 z28 w.1 w.2) (p31,p32)
def bP (a0:Int) (r1:Bool) (r3:(List Int) × (List Int) × Int) (r4:(List Int) × (List aW)) (z28 p30:Int):Option ((Int) ⊕ (Unit ⊕ Unit)) :=
 if decide (p30 < a0) = true then
  (dT a0 p30 r1 r3 r4 z28 0 0).bind fun (r42:Int) =>
  if (r42 != 0) = true then
   some (.inr (.inr (())))
  else
   some (.inl (IntKind.wrap .i64 (p30 + 1)))
 else
  some (.inr (.inl ()))
def iG (a0:Int) (r1:Bool) (r3:(List Int) × (List Int) × Int) (r4:(List Int) × (List aW)) (z28 p30:Int):Option (Unit ⊕ Unit) :=
 dK (fun (w:Int)=>bP a0 r1 r3 r4 z28 w) p30
def gL (a0:Int) (a1:List aE) (a2:List Int) (a3:Int):Option (Bool) :=
 (gC).bind fun (r1:Bool) =>
 (kG a0 a1).bind fun (r2:Bool) =>
 if (!(r2)) = true then
  some r1
 else
  (fT a0 a1 a2).bind fun (r3:(List Int) × (List Int) × Int) =>
  if (r3.2.2 != 0) = true then
   some r1
  else
   (jS a1 r3.1 a3 0).bind fun (r4:(List Int) × (List aW)) =>
   if ((r3.1.length:Int) != (a1.length:Int)) = true then
    some false
   else
    if ((r4.1.length:Int) != (r4.2.length:Int)) = true then
     some false
    else
     (dR a0 a1 a3 r1 r3 r4 0 0).bind fun (r27:Int ⊕ Unit)=>Sum.elim (fun z28 =>
     (iG a0 r1 r3 r4 z28 0).bind fun (r43:Unit ⊕ Unit)=>Sum.elim (fun z44 =>
      if r1 = true then
        if (z28 == (r4.2.length:Int)) = true then
         (i8 r3.1).bind fun (r46:Int) =>
         some (decide (r46 ≥ 0))
        else
         some false
       else
        some false) (fun z45 =>
      some false) r43) (fun z29 =>
     some false) r27
end
end Go.Proofs.Ytgjcnbgfaimepaa
