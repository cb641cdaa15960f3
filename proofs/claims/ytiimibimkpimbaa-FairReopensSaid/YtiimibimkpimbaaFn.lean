/- What the functions compute, as plain definitions. Printed by a program. -/
import Derived.Test.YtiimibimkpimbaaTab
set_option linter.unusedVariables false
set_option linter.unusedSimpArgs false
namespace Go.Proofs.Ytiimibimkpimbaa
noncomputable section
open Vm
open Go.RowKit
def bA (a1 p1:Int) (p2:List aA):Option ((Int × (List aA)) ⊕ ((List aA))) :=
 if decide (p1 <= 3) = true then
  if (p1 != a1) = true then
   if (p2.length + 1) * 72 <= 140737488355328 then
    some (.inl (IntKind.wrap .i64 (p1 + 1),p2 ++ [(aA.mk 1 0 1 p1 (p1.tmod 3) 0 0 0 0)]))
   else none
  else
   some (.inl (IntKind.wrap .i64 (p1 + 1),p2))
 else
  some (.inr (p2))
def kZ (a1 p1:Int) (p2:List aA):Option ((List aA)) :=
 eW (fun (w:Int × (List aA))=>bA a1 w.1 w.2) (p1,p2)
def cC (a0 a1:Int):Option ((List aA)) :=
 (kZ a1 1 [(aA.mk 3 0 0 0 0 0 0 a0 0),(aA.mk 0 0 1 1 0 1 0 30 10),(aA.mk 0 0 1 2 1 2 0 30 7),(aA.mk 0 0 1 3 2 0 0 30 8)]).bind fun (r4:(List aA)) =>
 if (r4.length + 1) * 72 <= 140737488355328 then
  some (r4 ++ [(aA.mk 4 0 5 0 0 0 0 0 0)])
 else none
def dY (a0 a1:Int):Option (Bool) :=
 if decide (a0 ≥ 0) = true then
  some (decide (a0 < a1))
 else
  some false
def qP (a0 a1 a2:Int) (a3:List aA):Option (Bool) :=
 (dY (IntKind.wrap .i64 (a0 - 1)) 40).bind fun (r1:Bool) =>
 if r1 = true then
  (dY (IntKind.wrap .i64 (a1 - 1)) 8).bind fun (r2:Bool) =>
  if r2 = true then
   (dY a2 100001).bind fun (r3:Bool) =>
   if r3 = true then
    some (decide ((a3.length:Int) <= 400))
   else
    some false
  else
   some false
 else
  some false
def qJ (a1:Int) (a2:aA) (p4:Bool):Option (Bool × Int × Int × Int) :=
 if (a2.Kind == 3) = true then
  if p4 = true then
   if decide (a2.Due ≥ a2.Day) = true then
    some ((decide (a2.Due <= 100000),a2.Room,0,a2.Due))
   else
    some ((false,a2.Room,0,a2.Due))
  else
   some ((false,a2.Room,0,a2.Due))
 else
  if (a2.Kind == 5) = true then
   some ((p4,0,a2.No,0))
  else
   if (a2.Kind == 4) = true then
    some ((p4,0,0,0))
   else
    some ((false,0,0,0))
def dE (a1:Int) (a2:aA) (p18:Bool) (p19 p20 p21 p22 p23 p24 p25:Int):Option (Int) :=
 if (!(p18)) = true then
  some (1)
 else
  if (!((a2.Kind == a2.Kind) && ((p19 == a2.Room) && ((a2.Day == a2.Day) && ((p20 == a2.No) && ((p21 == a2.From) && ((p22 == a2.To) && ((p23 == a2.Currency) && ((p24 == a2.Due) && (p25 == a2.Sum)))))))))) = true then
   some (1)
  else
   (dY a2.Room a1).bind fun (r26:Bool) =>
   if (!(r26)) = true then
    some (1)
   else
    (dY a2.No 1000).bind fun (r27:Bool) =>
    if (!(r27)) = true then
     some (1)
    else
     some (0)
def mP (a0 a1:Int) (a2:aA) (p4:Bool):Option (Int) :=
 if (a2.Kind == 0) = true then
  if p4 = true then
   (dY a2.From a0).bind fun (r5:Bool) =>
   if r5 = true then
    (dY a2.To a0).bind fun (r6:Bool) =>
    if r6 = true then
     if (a2.From != a2.To) = true then
      (dY a2.Currency 8).bind fun (r7:Bool) =>
      if r7 = true then
       (dY a2.Due 100001).bind fun (r8:Bool) =>
       if r8 = true then
        (dY (IntKind.wrap .i64 (a2.Sum - 1)) 1099511627776).bind fun (r9:Bool) =>
        (dE a1 a2 r9 a2.Room a2.No a2.From a2.To a2.Currency a2.Due a2.Sum).bind fun (r29:Int) =>
        some (r29)
       else
        (dE a1 a2 false a2.Room a2.No a2.From a2.To a2.Currency a2.Due a2.Sum).bind fun (r30:Int) =>
        some (r30)
      else
       (dE a1 a2 false a2.Room a2.No a2.From a2.To a2.Currency a2.Due a2.Sum).bind fun (r31:Int) =>
       some (r31)
     else
      (dE a1 a2 false a2.Room a2.No a2.From a2.To a2.Currency a2.Due a2.Sum).bind fun (r32:Int) =>
      some (r32)
    else
     (dE a1 a2 false a2.Room a2.No a2.From a2.To a2.Currency a2.Due a2.Sum).bind fun (r33:Int) =>
     some (r33)
   else
    (dE a1 a2 false a2.Room a2.No a2.From a2.To a2.Currency a2.Due a2.Sum).bind fun (r34:Int) =>
    some (r34)
  else
   (dE a1 a2 false a2.Room a2.No a2.From a2.To a2.Currency a2.Due a2.Sum).bind fun (r35:Int) =>
   some (r35)
 else
  if (a2.Kind == 1) = true then
   if (a2.Kind == 1) = true then
    if p4 = true then
     (dY a2.From a0).bind fun (r10:Bool) =>
     (dE a1 a2 r10 a2.Room a2.No a2.From 0 0 0 0).bind fun (r36:Int) =>
     some (r36)
    else
     (dE a1 a2 false a2.Room a2.No a2.From 0 0 0 0).bind fun (r37:Int) =>
     some (r37)
   else
    (qJ a1 a2 p4).bind fun (r15:Bool × Int × Int × Int) =>
    (dE a1 a2 r15.1 r15.2.1 r15.2.2.1 0 0 0 r15.2.2.2 0).bind fun (r38:Int) =>
    some (r38)
  else
   if (a2.Kind == 2) = true then
    if p4 = true then
     (dY a2.From a0).bind fun (r16:Bool) =>
     (dE a1 a2 r16 a2.Room a2.No a2.From 0 0 0 0).bind fun (r39:Int) =>
     some (r39)
    else
     (dE a1 a2 false a2.Room a2.No a2.From 0 0 0 0).bind fun (r40:Int) =>
     some (r40)
   else
    (qJ a1 a2 p4).bind fun (r17:Bool × Int × Int × Int) =>
    (dE a1 a2 r17.1 r17.2.1 r17.2.2.1 0 0 0 r17.2.2.2 0).bind fun (r41:Int) =>
    some (r41)
def kU (a0 a1:Int) (a2:aA):Option (Int) :=
 (dY (IntKind.wrap .i64 (a0 - 1)) 40).bind fun (r1:Bool) =>
 if r1 = true then
  (dY (IntKind.wrap .i64 (a1 - 1)) 8).bind fun (r2:Bool) =>
  if r2 = true then
   (dY a2.Day 100001).bind fun (r3:Bool) =>
   (mP a0 a1 a2 r3).bind fun (r43:Int) =>
   some r43
  else
   (mP a0 a1 a2 false).bind fun (r44:Int) =>
   some r44
 else
  (mP a0 a1 a2 false).bind fun (r45:Int) =>
  some r45
def kW (a0:aA) (a1 a2:Int):Option (Bool) :=
 if (a0.Kind == 3) = true then
  if (a0.Room == a1) = true then
   if decide (a0.Day <= a2) = true then
    some (decide (a2 <= a0.Due))
   else
    some false
  else
   some false
 else
  some false
def bG (a0:List aA) (a1 a2 p1:Int):Option ((Int) ⊕ (Unit ⊕ Int)) :=
 if decide (p1 < (a0.length:Int)) = true then
  (at? a0 p1).bind fun (x2:aA) =>
  (kW x2 a1 a2).bind fun (r3:Bool) =>
  if r3 = true then
   some (.inr (.inr (p1)))
  else
   some (.inl (IntKind.wrap .i64 (p1 + 1)))
 else
  some (.inr (.inl ()))
def dC (a0:List aA) (a1 a2 p1:Int):Option (Unit ⊕ Int) :=
 eW (fun (w:Int)=>bG a0 a1 a2 w) p1
def cP (a0:List aA) (a1 a2:Int):Option (Int) :=
 (dC a0 a1 a2 0).bind fun (r5:Unit ⊕ Int)=>Sum.elim (fun z6 =>
 some (-1)) (fun z7 =>
 some z7) r5
def cE (a0:List aA) (a1 a2:Int):Option (Bool) :=
 (cP a0 a1 a2).bind fun (r1:Int) =>
 some (decide (r1 ≥ 0))
def pL (a0:List aA) (a1 a2:Int):Option (Bool) :=
 (cE a0 a1 a2).bind fun (r1:Bool) =>
 some r1
def jT (a0 a1:aA):Option (Bool) :=
 if (a0.Kind == 0) = true then
  if (a0.No == a1.No) = true then
   some (!((a0.Kind == a1.Kind) && ((a0.Room == a1.Room) && ((a0.Day == a1.Day) && ((a0.No == a1.No) && ((a0.From == a1.From) && ((a0.To == a1.To) && ((a0.Currency == a1.Currency) && ((a0.Due == a1.Due) && (a0.Sum == a1.Sum))))))))))
  else
   some false
 else
  some false
def bE (a0:List aA) (a1:aA) (p1:Int):Option ((Int) ⊕ (Unit ⊕ Int)) :=
 if decide (p1 < (a0.length:Int)) = true then
  (at? a0 p1).bind fun (x2:aA) =>
  (jT x2 a1).bind fun (r3:Bool) =>
  if r3 = true then
   some (.inr (.inr (p1)))
  else
   some (.inl (IntKind.wrap .i64 (p1 + 1)))
 else
  some (.inr (.inl ()))
def dB (a0:List aA) (a1:aA) (p1:Int):Option (Unit ⊕ Int) :=
 eW (fun (w:Int)=>bE a0 a1 w) p1
def cU (a0:List aA) (a1:aA):Option (Int) :=
 (dB a0 a1 0).bind fun (r5:Unit ⊕ Int)=>Sum.elim (fun z6 =>
 some (-1)) (fun z7 =>
 some z7) r5
def bX (a0:List aA) (a1:aA):Option (Bool) :=
 (cU a0 a1).bind fun (r1:Int) =>
 some (decide (r1 ≥ 0))
def bJ (a0:List aA) (a1:aA) (p1:Int):Option ((Int) ⊕ (Unit ⊕ Int)) :=
 if decide (p1 < (a0.length:Int)) = true then
  (at? a0 p1).bind fun (x2:aA) =>
  if ((a1.Kind == x2.Kind) && ((a1.Room == x2.Room) && ((a1.Day == x2.Day) && ((a1.No == x2.No) && ((a1.From == x2.From) && ((a1.To == x2.To) && ((a1.Currency == x2.Currency) && ((a1.Due == x2.Due) && (a1.Sum == x2.Sum))))))))) = true then
   some (.inr (.inr (p1)))
  else
   some (.inl (IntKind.wrap .i64 (p1 + 1)))
 else
  some (.inr (.inl ()))
def d9 (a0:List aA) (a1:aA) (p1:Int):Option (Unit ⊕ Int) :=
 eW (fun (w:Int)=>bJ a0 a1 w) p1
def dH (a0:List aA) (a1:aA):Option (Int) :=
 (d9 a0 a1 0).bind fun (r4:Unit ⊕ Int)=>Sum.elim (fun z5 =>
 some (-1)) (fun z6 =>
 some z6) r4
def cG (a0:List aA) (a1:aA):Option (Bool) :=
 (dH a0 a1).bind fun (r1:Int) =>
 some (decide (r1 ≥ 0))
def iP (a0:aA) (a1 a2 a3:Int):Option (Bool) :=
 if (a0.Kind == a1) = true then
  if (a0.No == a2) = true then
   some (a0.From == a3)
  else
   some false
 else
  some false
def bD (a0:List aA) (a1 a2 a3 p1:Int):Option ((Int) ⊕ (Unit ⊕ Int)) :=
 if decide (p1 < (a0.length:Int)) = true then
  (at? a0 p1).bind fun (x2:aA) =>
  (iP x2 a1 a2 a3).bind fun (r3:Bool) =>
  if r3 = true then
   some (.inr (.inr (p1)))
  else
   some (.inl (IntKind.wrap .i64 (p1 + 1)))
 else
  some (.inr (.inl ()))
def dA (a0:List aA) (a1 a2 a3 p1:Int):Option (Unit ⊕ Int) :=
 eW (fun (w:Int)=>bD a0 a1 a2 a3 w) p1
def cQ (a0:List aA) (a1 a2 a3:Int):Option (Int) :=
 (dA a0 a1 a2 a3 0).bind fun (r5:Unit ⊕ Int)=>Sum.elim (fun z6 =>
 some (-1)) (fun z7 =>
 some z7) r5
def cH (a0:List aA) (a1 a2 a3:Int):Option (Bool) :=
 (cQ a0 a1 a2 a3).bind fun (r1:Int) =>
 some (decide (r1 ≥ 0))
def gN (a0 a1 a2:Int) (a3:List aA):Option (Bool) :=
 (cH a3 a0 a1 a2).bind fun (r1:Bool) =>
 some r1
def dZ (a0:List aA):Option (List aA):=if okK (fun (x:aA)=>x.No) a0 = true then some (isK (fun (x:aA)=>x.No) a0) else none
def fK (a0 a1 a2:Int) (a3:List aA) (p2:Int) (p3:List aA):Option ((Int × (List aA)) ⊕ ((List aA))) :=
 if decide (p2 < (a3.length:Int)) = true then
  (at? a3 p2).bind fun (x4:aA) =>
  (kU a0 a1 x4).bind fun (r5:Int) =>
  if (r5 == 0) = true then
   if (x4.Kind == 3) = true then
    if decide (x4.Day <= a2) = true then
     if (p3.length + 1) * 72 <= 140737488355328 then
      some (.inl (IntKind.wrap .i64 (p2 + 1),p3 ++ [x4]))
     else none
    else
     some (.inl (IntKind.wrap .i64 (p2 + 1),p3))
   else
    some (.inl (IntKind.wrap .i64 (p2 + 1),p3))
  else
   some (.inl (IntKind.wrap .i64 (p2 + 1),p3))
 else
  some (.inr (p3))
def nU (a0 a1 a2:Int) (a3:List aA) (p2:Int) (p3:List aA):Option ((List aA)) :=
 eW (fun (w:Int × (List aA))=>fK a0 a1 a2 a3 w.1 w.2) (p2,p3)
def fN (a0 a1 a2:Int) (a3:List aA) (r7:(List aA)) (p8:Int) (p9:List aA):Option ((Int × (List aA)) ⊕ ((List aA))) :=
 if decide (p8 < (a3.length:Int)) = true then
  (at? a3 p8).bind fun (x10:aA) =>
  (kU a0 a1 x10).bind fun (r11:Int) =>
  if (r11 == 0) = true then
   if decide (x10.Kind <= 2) = true then
    if decide (x10.Day <= a2) = true then
     (pL r7 x10.Room x10.Day).bind fun (r12:Bool) =>
     if r12 = true then
      if (p9.length + 1) * 72 <= 140737488355328 then
       some (.inl (IntKind.wrap .i64 (p8 + 1),p9 ++ [x10]))
      else none
     else
      some (.inl (IntKind.wrap .i64 (p8 + 1),p9))
    else
     some (.inl (IntKind.wrap .i64 (p8 + 1),p9))
   else
    some (.inl (IntKind.wrap .i64 (p8 + 1),p9))
  else
   some (.inl (IntKind.wrap .i64 (p8 + 1),p9))
 else
  some (.inr (p9))
def nO (a0 a1 a2:Int) (a3:List aA) (r7:(List aA)) (p8:Int) (p9:List aA):Option ((List aA)) :=
 eW (fun (w:Int × (List aA))=>fN a0 a1 a2 a3 r7 w.1 w.2) (p8,p9)
def fL (a2:Int) (r14 r7:(List aA)) (p15:Int) (p16:List aA):Option ((Int × (List aA)) ⊕ ((List aA))) :=
 if decide (p15 < (r14.length:Int)) = true then
  (at? r14 p15).bind fun (x17:aA) =>
  (bX r14 x17).bind fun (r18:Bool) =>
  if (x17.Kind != 0) = true then
   some (.inl (IntKind.wrap .i64 (p15 + 1),p16))
  else
   if r18 = true then
    some (.inl (IntKind.wrap .i64 (p15 + 1),p16))
   else
    (cG p16 x17).bind fun (r19:Bool) =>
    if r19 = true then
     some (.inl (IntKind.wrap .i64 (p15 + 1),p16))
    else
     (pL r7 x17.Room a2).bind fun (r20:Bool) =>
     if (!(r20)) = true then
      some (.inl (IntKind.wrap .i64 (p15 + 1),p16))
     else
      (gN 1 x17.No x17.To r14).bind fun (r21:Bool) =>
      if r21 = true then
       (gN 2 x17.No x17.From r14).bind fun (r22:Bool) =>
       if (!(r22)) = true then
        (gN 2 x17.No x17.To r14).bind fun (r23:Bool) =>
        if (!(r23)) = true then
         if (p16.length + 1) * 72 <= 140737488355328 then
          some (.inl (IntKind.wrap .i64 (p15 + 1),p16 ++ [x17]))
         else none
        else
         some (.inl (IntKind.wrap .i64 (p15 + 1),p16))
       else
        some (.inl (IntKind.wrap .i64 (p15 + 1),p16))
      else
       some (.inl (IntKind.wrap .i64 (p15 + 1),p16))
 else
  some (.inr (p16))
def kY (a2:Int) (r14 r7:(List aA)) (p15:Int) (p16:List aA):Option ((List aA)) :=
 eW (fun (w:Int × (List aA))=>fL a2 r14 r7 w.1 w.2) (p15,p16)
def kQ (a0 a1 a2:Int) (a3:List aA):Option ((List aA)) :=
 (qP a0 a1 a2 a3).bind fun (r1:Bool) =>
 if (!(r1)) = true then
  some []
 else
  (nU a0 a1 a2 a3 0 []).bind fun (r7:(List aA)) =>
  (nO a0 a1 a2 a3 r7 0 []).bind fun (r14:(List aA)) =>
  (kY a2 r14 r7 0 []).bind fun (r25:(List aA)) =>
  (dZ r25).bind fun (r26:(List aA)) =>
  some r26
def vQ (a0:aA):Option (aE) :=
 some (aE.mk a0.Currency a0.Due)
def kT (a0:aA):Option (Int) :=
 some a0.Sum
def eZ (a0:Int) (a1:List aK) (p1:Int):Option ((Int) ⊕ (Unit ⊕ Unit)) :=
 if decide (p1 < (a1.length:Int)) = true then
  (at? a1 p1).bind fun (x2:aK) =>
  if decide (x2.From < 0) = true then
   some (.inr (.inr (())))
  else
   if decide (x2.From ≥ a0) = true then
    some (.inr (.inr (())))
   else
    if decide (x2.To < 0) = true then
     some (.inr (.inr (())))
    else
     if decide (x2.To ≥ a0) = true then
      some (.inr (.inr (())))
     else
      if (x2.From == x2.To) = true then
       some (.inr (.inr (())))
      else
       if decide (x2.Sum < 1) = true then
        some (.inr (.inr (())))
       else
        if decide (x2.Sum > 1099511627776) = true then
         some (.inr (.inr (())))
        else
         some (.inl (IntKind.wrap .i64 (p1 + 1)))
 else
  some (.inr (.inl ()))
def mQ (a0:Int) (a1:List aK) (p1:Int):Option (Unit ⊕ Unit) :=
 eW (fun (w:Int)=>eZ a0 a1 w) p1
def lI (a0:Int) (a1:List aK):Option (Bool) :=
 if decide (a0 < 0) = true then
  some false
 else
  if decide (a0 > 40) = true then
   some false
  else
   if decide ((a1.length:Int) > 100) = true then
    some false
   else
    (mQ a0 a1 0).bind fun (r3:Unit ⊕ Unit)=>Sum.elim (fun z4 =>
    some true) (fun z5 =>
    some false) r3
def kG (a0:List aK) (a1:List Int) (p1:Int) (x3:aK) (p6:List aB):Option ((List aB)) :=
 (at? a1 p1).bind fun (x7:Int) =>
 if decide (x7 > 0) = true then
  (at? a1 p1).bind fun (x8:Int) =>
  if (p6.length + 1) * 48 <= 140737488355328 then
   some (p6 ++ [(aB.mk p1 x3.To x3.From 1 x8 true)])
  else none
 else
  some (p6)
def eR (a0:List aK) (a1:List Int) (p1:Int) (p2:List aB):Option ((Int × (List aB)) ⊕ ((List aB))) :=
 if decide (p1 < (a0.length:Int)) = true then
  (at? a0 p1).bind fun (x3:aK) =>
  (at? a1 p1).bind fun (x4:Int) =>
  if decide (x4 < x3.Sum) = true then
   (at? a1 p1).bind fun (x5:Int) =>
   if (p2.length + 1) * 48 <= 140737488355328 then
    (kG a0 a1 p1 x3 (p2 ++ [(aB.mk p1 x3.From x3.To (-1) (IntKind.wrap .i64 (x3.Sum - x5)) false)])).bind fun (r10:(List aB)) =>
    some (.inl (IntKind.wrap .i64 (p1 + 1),r10))
   else none
  else
   (kG a0 a1 p1 x3 p2).bind fun (r11:(List aB)) =>
   some (.inl (IntKind.wrap .i64 (p1 + 1),r11))
 else
  some (.inr (p2))
def pK (a0:List aK) (a1:List Int) (p1:Int) (p2:List aB):Option ((List aB)) :=
 eW (fun (w:Int × (List aB))=>eR a0 a1 w.1 w.2) (p1,p2)
def g9 (a0:List aK) (a1:List Int):Option ((List aB)) :=
 (pK a0 a1 0 []).bind fun (r13:(List aB)) =>
 some r13
def iG (a0:List Int) (a1:Int):Option ((List Int)):=aKz a0 a1
def hU (a0:aD) (a1:aB):Option (aD) :=
 some (aD.mk (IntKind.wrap .i64 (a0.c + a1.cost)) (IntKind.wrap .i64 (a0.steps + 1)) a0.fine)
def fW (a0 a1:aD):Option (Bool) :=
 if a0.fine = true then
  if (!(a1.fine)) = true then
   some true
  else
   if decide (a0.c < a1.c) = true then
    some true
   else
    if (a0.c == a1.c) = true then
     some (decide (a0.steps < a1.steps))
    else
     some false
 else
  some false
def dI (a0:Int) (a1:List aB) (a2:List Int) (p1:Int) (p2:List aD):Option ((Int × (List aD)) ⊕ ((List aD))) :=
 if decide (p1 < a0) = true then
  (at? a2 p1).bind fun (x3:Int) =>
  if 0 <= p1 ∧ p1.toNat < p2.length then
   (p2[p1.toNat]?).bind fun (x4:aD) =>
   some (.inl (IntKind.wrap .i64 (p1 + 1),p2.set p1.toNat (aD.mk x4.c x4.steps (decide (x3 > 0)))))
  else none
 else
  some (.inr (p2))
def kA (a0:Int) (a1:List aB) (a2:List Int) (p1:Int) (p2:List aD):Option ((List aD)) :=
 eW (fun (w:Int × (List aD))=>dI a0 a1 a2 w.1 w.2) (p1,p2)
def eV (a1:List aB) (p11:Bool) (p12:Int) (p13:List aD) (p14:List Int):Option ((Bool × Int × (List aD) × (List Int)) ⊕ (Bool × (List aD) × (List Int))) :=
 if decide (p12 < (a1.length:Int)) = true then
  (at? a1 p12).bind fun (x15:aB) =>
  if 0 <= x15.from_ ∧ x15.from_.toNat < p13.length then
   (p13[x15.from_.toNat]?).bind fun (x16:aD) =>
   (hU x16 x15).bind fun (r17:aD) =>
   if 0 <= x15.to ∧ x15.to.toNat < p13.length then
    (p13[x15.to.toNat]?).bind fun (x18:aD) =>
    (fW r17 x18).bind fun (r19:Bool) =>
    if r19 = true then
     if 0 <= x15.to ∧ x15.to.toNat < p13.length then
      (p13[x15.to.toNat]?).bind fun (x20:aD) =>
      if 0 <= x15.to ∧ x15.to.toNat < p14.length then
       (p14[x15.to.toNat]?).bind fun (x21:Int) =>
       some (.inl (true,IntKind.wrap .i64 (p12 + 1),p13.set x15.to.toNat r17,p14.set x15.to.toNat p12))
      else none
     else none
    else
     some (.inl (p11,IntKind.wrap .i64 (p12 + 1),p13,p14))
   else none
  else none
 else
  some (.inr ((p11,p13,p14)))
def kE (a1:List aB) (p11:Bool) (p12:Int) (p13:List aD) (p14:List Int):Option (Bool × (List aD) × (List Int)) :=
 eW (fun (w:Bool × Int × (List aD) × (List Int))=>eV a1 w.1 w.2.1 w.2.2.1 w.2.2.2) (p11,p12,p13,p14)
def gS (a1:List aB) (p8:Bool) (p9:List aD) (p10:List Int):Option ((Bool × (List aD) × (List Int)) ⊕ ((List aD) × (List Int))) :=
 if p8 = true then
  (kE a1 false 0 p9 p10).bind fun (r25:Bool × (List aD) × (List Int)) =>
  some (.inl (r25.1,r25.2.1,r25.2.2))
 else
  some (.inr ((p9,p10)))
def kB (a1:List aB) (p8:Bool) (p9:List aD) (p10:List Int):Option ((List aD) × (List Int)) :=
 eW (fun (w:Bool × (List aD) × (List Int))=>gS a1 w.1 w.2.1 w.2.2) (p8,p9,p10)
def gW (a0:Int) (a1:List aB) (a2:List Int):Option ((List aD) × (List Int)) :=
 if 0 <= a0 ∧ a0 <= a0 ∧ 24 * a0 <= 281474976710656 ∧ a0 <= 9223372036854775807 then
  (kA a0 a1 a2 0 (List.replicate a0.toNat ((aD.mk 0 0 false):aD))).bind fun (r6:(List aD)) =>
  (iG [(-1)] (r6.length:Int)).bind fun (r7:(List Int)) =>
  (kB a1 true r6 r7).bind fun (r28:(List aD) × (List Int)) =>
  some (r28.1,r28.2)
 else none
def gR (a0:aB) (a1:List Int) (p1:Int):Option ((List Int)) :=
 if 0 <= a0.due ∧ a0.due.toNat < a1.length then
  (a1[a0.due.toNat]?).bind fun (x2:Int) =>
  if 0 <= a0.due ∧ a0.due.toNat < a1.length then
   (a1[a0.due.toNat]?).bind fun (x3:Int) =>
   some (a1.set a0.due.toNat (IntKind.wrap .i64 (x2 + p1)))
  else none
 else none
def fU (a0:aB) (a1:List Int) (a2:Int):Option ((List Int)) :=
 if a0.back = true then
  (gR a0 a1 (IntKind.wrap .i64 (0 - a2))).bind fun (r5:(List Int)) =>
  some r5
 else
  (gR a0 a1 a2).bind fun (r6:(List Int)) =>
  some r6
def dS (a0:Int) (a1:List aK) (a2:List Int) (p1:Int) (p2:List Int):Option ((Int × (List Int)) ⊕ ((List Int))) :=
 if decide (p1 < (a1.length:Int)) = true then
  (at? a1 p1).bind fun (x3:aK) =>
  if 0 <= x3.To ∧ x3.To.toNat < p2.length then
   (p2[x3.To.toNat]?).bind fun (x4:Int) =>
   if 0 <= p1 ∧ p1.toNat < a2.length then
    (a2[p1.toNat]?).bind fun (x5:Int) =>
    if 0 <= x3.To ∧ x3.To.toNat < p2.length then
     (p2[x3.To.toNat]?).bind fun (x6:Int) =>
     if 0 <= x3.From ∧ x3.From.toNat < (p2.set x3.To.toNat (IntKind.wrap .i64 (x4 + x5))).length then
      ((p2.set x3.To.toNat (IntKind.wrap .i64 (x4 + x5)))[x3.From.toNat]?).bind fun (x7:Int) =>
      if 0 <= p1 ∧ p1.toNat < a2.length then
       (a2[p1.toNat]?).bind fun (x8:Int) =>
       if 0 <= x3.From ∧ x3.From.toNat < (p2.set x3.To.toNat (IntKind.wrap .i64 (x4 + x5))).length then
        ((p2.set x3.To.toNat (IntKind.wrap .i64 (x4 + x5)))[x3.From.toNat]?).bind fun (x9:Int) =>
        some (.inl (IntKind.wrap .i64 (p1 + 1),(p2.set x3.To.toNat (IntKind.wrap .i64 (x4 + x5))).set x3.From.toNat (IntKind.wrap .i64 (x7 - x8))))
       else none
      else none
     else none
    else none
   else none
  else none
 else
  some (.inr (p2))
def kS (a0:Int) (a1:List aK) (a2:List Int) (p1:Int) (p2:List Int):Option ((List Int)) :=
 eW (fun (w:Int × (List Int))=>dS a0 a1 a2 w.1 w.2) (p1,p2)
def bV (a0:Int) (a1:List aK) (p12 p13:List Int) (r14:(List aB)) (r15:(List aD) × (List Int)) (p16 p17:Int):Option ((Int × Int) ⊕ (Int)) :=
 if decide (p17 < a0) = true then
  if 0 <= p17 ∧ p17.toNat < p12.length then
   (p12[p17.toNat]?).bind fun (x18:Int) =>
   if decide (x18 < 0) = true then
    if decide (p16 < 0) = true then
     if 0 <= p17 ∧ p17.toNat < r15.1.length then
      (r15.1[p17.toNat]?).bind fun (x19:aD) =>
      if x19.fine = true then
       some (.inl (p17,IntKind.wrap .i64 (p17 + 1)))
      else
       if decide (p16 ≥ 0) = true then
        if 0 <= p17 ∧ p17.toNat < r15.1.length then
         (r15.1[p17.toNat]?).bind fun (x20:aD) =>
         if 0 <= p16 ∧ p16.toNat < r15.1.length then
          (r15.1[p16.toNat]?).bind fun (x21:aD) =>
          (fW x20 x21).bind fun (r22:Bool) =>
          if r22 = true then
           some (.inl (p17,IntKind.wrap .i64 (p17 + 1)))
          else
           some (.inl (p16,IntKind.wrap .i64 (p17 + 1)))
         else none
        else none
       else
        some (.inl (p16,IntKind.wrap .i64 (p17 + 1)))
     else none
    else
     if decide (p16 ≥ 0) = true then
      if 0 <= p17 ∧ p17.toNat < r15.1.length then
       (r15.1[p17.toNat]?).bind fun (x23:aD) =>
       if 0 <= p16 ∧ p16.toNat < r15.1.length then
        (r15.1[p16.toNat]?).bind fun (x24:aD) =>
        (fW x23 x24).bind fun (r25:Bool) =>
        if r25 = true then
         some (.inl (p17,IntKind.wrap .i64 (p17 + 1)))
        else
         some (.inl (p16,IntKind.wrap .i64 (p17 + 1)))
       else none
      else none
     else
      some (.inl (p16,IntKind.wrap .i64 (p17 + 1)))
   else
    some (.inl (p16,IntKind.wrap .i64 (p17 + 1)))
  else none
 else
  some (.inr (p16))
def kO (a0:Int) (a1:List aK) (p12 p13:List Int) (r14:(List aB)) (r15:(List aD) × (List Int)) (p16 p17:Int):Option (Int) :=
 eW (fun (w:Int × Int)=>bV a0 a1 p12 p13 r14 r15 w.1 w.2) (p16,p17)
def e9 (a0:Int) (a1:List aK) (p12 p13:List Int) (r14:(List aB)) (r15:(List aD) × (List Int)) (r27 p29 p30:Int):Option ((Int × Int) ⊕ (Int × Int)) :=
 if 0 <= p30 ∧ p30.toNat < r15.2.length then
  (r15.2[p30.toNat]?).bind fun (x31:Int) =>
  if decide (x31 ≥ 0) = true then
   if 0 <= p30 ∧ p30.toNat < r15.2.length then
    (r15.2[p30.toNat]?).bind fun (x32:Int) =>
    if 0 <= x32 ∧ x32.toNat < r14.length then
     (r14[x32.toNat]?).bind fun (x33:aB) =>
     if 0 <= p30 ∧ p30.toNat < r15.2.length then
      (r15.2[p30.toNat]?).bind fun (x34:Int) =>
      if 0 <= x34 ∧ x34.toNat < r14.length then
       (r14[x34.toNat]?).bind fun (x35:aB) =>
       some (.inl ((if x33.most < p29 then x33.most else p29),x35.from_))
      else none
     else none
    else none
   else none
  else
   some (.inr ((p29,p30)))
 else none
def gY (a0:Int) (a1:List aK) (p12 p13:List Int) (r14:(List aB)) (r15:(List aD) × (List Int)) (r27 p29 p30:Int):Option (Int × Int) :=
 eW (fun (w:Int × Int)=>e9 a0 a1 p12 p13 r14 r15 r27 w.1 w.2) (p29,p30)
def fA (a0:Int) (a1:List aK) (p12:List Int) (r14:(List aB)) (r15:(List aD) × (List Int)) (r27:Int) (r38:Int × Int) (x39 p40:Int) (p41:List Int):Option ((Int × (List Int)) ⊕ ((List Int))) :=
 if 0 <= p40 ∧ p40.toNat < r15.2.length then
  (r15.2[p40.toNat]?).bind fun (x42:Int) =>
  if decide (x42 ≥ 0) = true then
   if 0 <= p40 ∧ p40.toNat < r15.2.length then
    (r15.2[p40.toNat]?).bind fun (x43:Int) =>
    if 0 <= x43 ∧ x43.toNat < r14.length then
     (r14[x43.toNat]?).bind fun (x44:aB) =>
     (fU x44 p41 (if x39 < r38.1 then x39 else r38.1)).bind fun (r45:(List Int)) =>
     if 0 <= p40 ∧ p40.toNat < r15.2.length then
      (r15.2[p40.toNat]?).bind fun (x46:Int) =>
      if 0 <= x46 ∧ x46.toNat < r14.length then
       (r14[x46.toNat]?).bind fun (x47:aB) =>
       some (.inl (x47.from_,r45))
      else none
     else none
    else none
   else none
  else
   some (.inr (p41))
 else none
def gV (a0:Int) (a1:List aK) (p12:List Int) (r14:(List aB)) (r15:(List aD) × (List Int)) (r27:Int) (r38:Int × Int) (x39 p40:Int) (p41:List Int):Option ((List Int)) :=
 eW (fun (w:Int × (List Int))=>fA a0 a1 p12 r14 r15 r27 r38 x39 w.1 w.2) (p40,p41)
def eJ (a0:Int) (a1:List aK) (p12 p13:List Int):Option (((List Int) × (List Int)) ⊕ ((List Int))) :=
 (g9 a1 p13).bind fun (r14:(List aB)) =>
 (gW a0 r14 p12).bind fun (r15:(List aD) × (List Int)) =>
 (kO a0 a1 p12 p13 r14 r15 (-1) 0).bind fun (r27:Int) =>
 if decide (r27 < 0) = true then
  some (.inr (p13))
 else
  if 0 <= r27 ∧ r27.toNat < p12.length then
   (p12[r27.toNat]?).bind fun (x28:Int) =>
   (gY a0 a1 p12 p13 r14 r15 r27 (IntKind.wrap .i64 (0 - x28)) r27).bind fun (r38:Int × Int) =>
   if 0 <= r38.2 ∧ r38.2.toNat < p12.length then
    (p12[r38.2.toNat]?).bind fun (x39:Int) =>
    (gV a0 a1 p12 r14 r15 r27 r38 x39 r27 p13).bind fun (r49:(List Int)) =>
    if 0 <= r38.2 ∧ r38.2.toNat < p12.length then
     (p12[r38.2.toNat]?).bind fun (x50:Int) =>
     if 0 <= r38.2 ∧ r38.2.toNat < p12.length then
      (p12[r38.2.toNat]?).bind fun (x51:Int) =>
      if 0 <= r27 ∧ r27.toNat < (p12.set r38.2.toNat (IntKind.wrap .i64 (x50 - (if x39 < r38.1 then x39 else r38.1)))).length then
       ((p12.set r38.2.toNat (IntKind.wrap .i64 (x50 - (if x39 < r38.1 then x39 else r38.1))))[r27.toNat]?).bind fun (x52:Int) =>
       if 0 <= r27 ∧ r27.toNat < (p12.set r38.2.toNat (IntKind.wrap .i64 (x50 - (if x39 < r38.1 then x39 else r38.1)))).length then
        ((p12.set r38.2.toNat (IntKind.wrap .i64 (x50 - (if x39 < r38.1 then x39 else r38.1))))[r27.toNat]?).bind fun (x53:Int) =>
        some (.inl ((p12.set r38.2.toNat (IntKind.wrap .i64 (x50 - (if x39 < r38.1 then x39 else r38.1)))).set r27.toNat (IntKind.wrap .i64 (x52 + (if x39 < r38.1 then x39 else r38.1))),r49))
       else none
      else none
     else none
    else none
   else none
  else none
def nQ (a0:Int) (a1:List aK) (p12 p13:List Int):Option ((List Int)) :=
 eW (fun (w:(List Int) × (List Int))=>eJ a0 a1 w.1 w.2) (p12,p13)
def lE (a0:Int) (a1:List aK) (a2:List Int):Option ((List Int)) :=
 if 0 <= a0 ∧ a0 <= a0 ∧ 8 * a0 <= 281474976710656 ∧ a0 <= 9223372036854775807 then
  (kS a0 a1 a2 0 (List.replicate a0.toNat (0:Int))).bind fun (r11:(List Int)) =>
  (nQ a0 a1 r11 a2).bind fun (r55:(List Int)) =>
  some r55
 else none
def iD (a0:Int) (a1:aB):Option (Int) :=
 some (IntKind.wrap .i64 (a0 + a1.cost))
def o0 (a0:Int):Option (Bool) :=
 some (a0 != a0)
def pT (a0 a1:Int):Option (Bool) :=
 (o0 a0).bind fun (r1:Bool) =>
 if r1 = true then
  (o0 a1).bind fun (r2:Bool) =>
  if (!(r2)) = true then
   some true
  else
   some (decide (a0 < a1))
 else
  some (decide (a0 < a1))
def eC (r1:(List aB)) (p6:Bool) (p7:Int) (p8 p9:List Int):Option ((Bool × Int × (List Int) × (List Int)) ⊕ (Bool × (List Int) × (List Int))) :=
 if decide (p7 < (r1.length:Int)) = true then
  if 0 <= p7 ∧ p7.toNat < r1.length then
   (r1[p7.toNat]?).bind fun (x10:aB) =>
   if 0 <= x10.from_ ∧ x10.from_.toNat < p8.length then
    (p8[x10.from_.toNat]?).bind fun (x11:Int) =>
    (iD x11 x10).bind fun (r12:Int) =>
    if 0 <= x10.to ∧ x10.to.toNat < p8.length then
     (p8[x10.to.toNat]?).bind fun (x13:Int) =>
     (pT r12 x13).bind fun (r14:Bool) =>
     if r14 = true then
      if 0 <= x10.to ∧ x10.to.toNat < p8.length then
       (p8[x10.to.toNat]?).bind fun (x15:Int) =>
       if 0 <= x10.to ∧ x10.to.toNat < p9.length then
        (p9[x10.to.toNat]?).bind fun (x16:Int) =>
        some (.inl (true,IntKind.wrap .i64 (p7 + 1),p8.set x10.to.toNat r12,p9.set x10.to.toNat p7))
       else none
      else none
     else
      some (.inl (p6,IntKind.wrap .i64 (p7 + 1),p8,p9))
    else none
   else none
  else none
 else
  some (.inr ((p6,p8,p9)))
def i7 (r1:(List aB)) (p6:Bool) (p7:Int) (p8 p9:List Int):Option (Bool × (List Int) × (List Int)) :=
 eW (fun (w:Bool × Int × (List Int) × (List Int))=>eC r1 w.1 w.2.1 w.2.2.1 w.2.2.2) (p6,p7,p8,p9)
def gA (r1:(List aB)) (p3:Bool) (p4 p5:List Int):Option ((Bool × (List Int) × (List Int)) ⊕ ((List Int) × (List Int))) :=
 if p3 = true then
  (i7 r1 false 0 p4 p5).bind fun (r20:Bool × (List Int) × (List Int)) =>
  some (.inl (r20.1,r20.2.1,r20.2.2))
 else
  some (.inr ((p4,p5)))
def i9 (r1:(List aB)) (p3:Bool) (p4 p5:List Int):Option ((List Int) × (List Int)) :=
 eW (fun (w:Bool × (List Int) × (List Int))=>gA r1 w.1 w.2.1 w.2.2) (p3,p4,p5)
def fY (a0:Int) (a1:List aK) (a2:List Int):Option ((List Int)) :=
 if 0 <= a0 ∧ a0 <= a0 ∧ 8 * a0 <= 281474976710656 ∧ a0 <= 9223372036854775807 then
  (g9 a1 a2).bind fun (r1:(List aB)) =>
  (iG [(-1)] ((List.replicate a0.toNat (0:Int)).length:Int)).bind fun (r2:(List Int)) =>
  (i9 r1 true (List.replicate a0.toNat (0:Int)) r2).bind fun (r23:(List Int) × (List Int)) =>
  some r23.1
 else none
def eO (a0:Int) (a1:List aK) (a3:List Int) (a4:Int) (p5:List Int) (r8:(List aB)) (p9:Int) (p10:List aB):Option ((Int × (List aB)) ⊕ ((List aB))) :=
 if decide (p9 < (r8.length:Int)) = true then
  if 0 <= p9 ∧ p9.toNat < r8.length then
   (r8[p9.toNat]?).bind fun (x11:aB) =>
   if decide (x11.due > a4) = true then
    (at? a3 x11.to).bind fun (x12:Int) =>
    (at? a3 x11.from_).bind fun (x13:Int) =>
    if (x12 == (IntKind.wrap .i64 (x13 + x11.cost))) = true then
     if (p10.length + 1) * 48 <= 140737488355328 then
      some (.inl (IntKind.wrap .i64 (p9 + 1),p10 ++ [x11]))
     else none
    else
     some (.inl (IntKind.wrap .i64 (p9 + 1),p10))
   else
    some (.inl (IntKind.wrap .i64 (p9 + 1),p10))
  else none
 else
  some (.inr (p10))
def mS (a0:Int) (a1:List aK) (a3:List Int) (a4:Int) (p5:List Int) (r8:(List aB)) (p9:Int) (p10:List aB):Option ((List aB)) :=
 eW (fun (w:Int × (List aB))=>eO a0 a1 a3 a4 p5 r8 w.1 w.2) (p9,p10)
def eK (a0:Int) (a1:List aK) (a3:List Int) (a4:Int) (p5:List Int) (r15:(List aB)) (x16:aK) (p18:Int) (p19:List aB):Option ((Int × (List aB)) ⊕ ((List aB))) :=
 if decide (p18 < (r15.length:Int)) = true then
  if 0 <= p18 ∧ p18.toNat < p19.length then
   (p19[p18.toNat]?).bind fun (x20:aB) =>
   some (.inl (IntKind.wrap .i64 (p18 + 1),p19.set p18.toNat (aB.mk x20.due x20.from_ x20.to 0 x20.most x20.back)))
  else none
 else
  some (.inr (p19))
def mN (a0:Int) (a1:List aK) (a3:List Int) (a4:Int) (p5:List Int) (r15:(List aB)) (x16:aK) (p18:Int) (p19:List aB):Option ((List aB)) :=
 eW (fun (w:Int × (List aB))=>eK a0 a1 a3 a4 p5 r15 x16 w.1 w.2) (p18,p19)
def fV (a0:Int) (a1:List aK) (a3:List Int) (a4:Int) (p5:List Int) (r22:(List aB)) (r23:(List aD) × (List Int)) (p29 p30:Int):Option ((Int × Int) ⊕ (Int)) :=
 if 0 <= p30 ∧ p30.toNat < r23.2.length then
  (r23.2[p30.toNat]?).bind fun (x31:Int) =>
  if decide (x31 ≥ 0) = true then
   if 0 <= p30 ∧ p30.toNat < r23.2.length then
    (r23.2[p30.toNat]?).bind fun (x32:Int) =>
    if 0 <= x32 ∧ x32.toNat < r22.length then
     (r22[x32.toNat]?).bind fun (x33:aB) =>
     if 0 <= p30 ∧ p30.toNat < r23.2.length then
      (r23.2[p30.toNat]?).bind fun (x34:Int) =>
      if 0 <= x34 ∧ x34.toNat < r22.length then
       (r22[x34.toNat]?).bind fun (x35:aB) =>
       some (.inl ((if x33.most < p29 then x33.most else p29),x35.from_))
      else none
     else none
    else none
   else none
  else
   some (.inr (p29))
 else none
def iX (a0:Int) (a1:List aK) (a3:List Int) (a4:Int) (p5:List Int) (r22:(List aB)) (r23:(List aD) × (List Int)) (p29 p30:Int):Option (Int) :=
 eW (fun (w:Int × Int)=>fV a0 a1 a3 a4 p5 r22 r23 w.1 w.2) (p29,p30)
def fX (a0:Int) (a1:List aK) (a3:List Int) (a4:Int) (r22:(List aB)) (r23:(List aD) × (List Int)) (r37 p39:Int) (p40:List Int):Option ((Int × (List Int)) ⊕ ((List Int))) :=
 if 0 <= p39 ∧ p39.toNat < r23.2.length then
  (r23.2[p39.toNat]?).bind fun (x41:Int) =>
  if decide (x41 ≥ 0) = true then
   if 0 <= p39 ∧ p39.toNat < r23.2.length then
    (r23.2[p39.toNat]?).bind fun (x42:Int) =>
    if 0 <= x42 ∧ x42.toNat < r22.length then
     (r22[x42.toNat]?).bind fun (x43:aB) =>
     (fU x43 p40 r37).bind fun (r44:(List Int)) =>
     if 0 <= p39 ∧ p39.toNat < r23.2.length then
      (r23.2[p39.toNat]?).bind fun (x45:Int) =>
      if 0 <= x45 ∧ x45.toNat < r22.length then
       (r22[x45.toNat]?).bind fun (x46:aB) =>
       some (.inl (x46.from_,r44))
      else none
     else none
    else none
   else none
  else
   some (.inr (p40))
 else none
def i0 (a0:Int) (a1:List aK) (a3:List Int) (a4:Int) (r22:(List aB)) (r23:(List aD) × (List Int)) (r37 p39:Int) (p40:List Int):Option ((List Int)) :=
 eW (fun (w:Int × (List Int))=>fX a0 a1 a3 a4 r22 r23 r37 w.1 w.2) (p39,p40)
def dW (a0:Int) (a1:List aK) (a3:List Int) (a4:Int) (p5:List Int):Option (((List Int)) ⊕ (((List Int)) ⊕ ((List Int)))) :=
 if 0 <= a4 ∧ a4.toNat < p5.length then
  (p5[a4.toNat]?).bind fun (x6:Int) =>
  (at? a1 a4).bind fun (x7:aK) =>
  if decide (x6 < x7.Sum) = true then
   (g9 a1 p5).bind fun (r8:(List aB)) =>
   (mS a0 a1 a3 a4 p5 r8 0 []).bind fun (r15:(List aB)) =>
   if 0 <= a0 ∧ a0 <= a0 ∧ 8 * a0 <= 281474976710656 ∧ a0 <= 9223372036854775807 then
    (at? a1 a4).bind fun (x16:aK) =>
    if 0 <= x16.To ∧ x16.To.toNat < (List.replicate a0.toNat (0:Int)).length then
     ((List.replicate a0.toNat (0:Int))[x16.To.toNat]?).bind fun (x17:Int) =>
     (mN a0 a1 a3 a4 p5 r15 x16 0 r15).bind fun (r22:(List aB)) =>
     (gW a0 r22 ((List.replicate a0.toNat (0:Int)).set x16.To.toNat 1)).bind fun (r23:(List aD) × (List Int)) =>
     (at? a1 a4).bind fun (x24:aK) =>
     if 0 <= x24.From ∧ x24.From.toNat < r23.1.length then
      (r23.1[x24.From.toNat]?).bind fun (x25:aD) =>
      if (!(x25.fine)) = true then
       some (.inr (.inr (p5)))
      else
       (at? a1 a4).bind fun (x26:aK) =>
       if 0 <= a4 ∧ a4.toNat < p5.length then
        (p5[a4.toNat]?).bind fun (x27:Int) =>
        (at? a1 a4).bind fun (x28:aK) =>
        (iX a0 a1 a3 a4 p5 r22 r23 (IntKind.wrap .i64 (x26.Sum - x27)) x28.From).bind fun (r37:Int) =>
        (at? a1 a4).bind fun (x38:aK) =>
        (i0 a0 a1 a3 a4 r22 r23 r37 x38.From p5).bind fun (r48:(List Int)) =>
        if 0 <= a4 ∧ a4.toNat < r48.length then
         (r48[a4.toNat]?).bind fun (x49:Int) =>
         if 0 <= a4 ∧ a4.toNat < r48.length then
          (r48[a4.toNat]?).bind fun (x50:Int) =>
          some (.inl (r48.set a4.toNat (IntKind.wrap .i64 (x49 + r37))))
         else none
        else none
       else none
     else none
    else none
   else none
  else
   some (.inr (.inl p5))
 else none
def pN (a0:Int) (a1:List aK) (a3:List Int) (a4:Int) (p5:List Int):Option (((List Int)) ⊕ ((List Int))) :=
 eW (fun (w:(List Int))=>dW a0 a1 a3 a4 w) p5
def nF (a0:Int) (a1:List aK) (a2 a3:List Int) (a4:Int):Option ((List Int)) :=
 (at? a1 a4).bind fun (x1:aK) =>
 (at? a3 x1.To).bind fun (x2:Int) =>
 (at? a1 a4).bind fun (x3:aK) =>
 (at? a3 x3.From).bind fun (x4:Int) =>
 if (x2 != (IntKind.wrap .i64 (x4 - 1))) = true then
  some a2
 else
  (pN a0 a1 a3 a4 a2).bind fun (r53:((List Int)) ⊕ ((List Int)))=>Sum.elim (fun z54 =>
  some z54) (fun z55 =>
  some z55) r53
def eQ (a0:Int) (a1:List aK) (p2:Int) (p3:List Int):Option ((Int × (List Int)) ⊕ ((List Int))) :=
 if decide (p2 < (a1.length:Int)) = true then
  (at? a1 p2).bind fun (x4:aK) =>
  if 0 <= p2 ∧ p2.toNat < p3.length then
   (p3[p2.toNat]?).bind fun (x5:Int) =>
   some (.inl (IntKind.wrap .i64 (p2 + 1),p3.set p2.toNat x4.Sum))
  else none
 else
  some (.inr (p3))
def mM (a0:Int) (a1:List aK) (p2:Int) (p3:List Int):Option ((List Int)) :=
 eW (fun (w:Int × (List Int))=>eQ a0 a1 w.1 w.2) (p2,p3)
def fB (a0:Int) (a1:List aK) (r9:(List Int)) (p10:Int) (p11:List Int):Option ((Int × (List Int)) ⊕ ((List Int))) :=
 if decide (p10 < (a1.length:Int)) = true then
  (nF a0 a1 p11 r9 p10).bind fun (r12:(List Int)) =>
  some (.inl (IntKind.wrap .i64 (p10 + 1),r12))
 else
  some (.inr (p11))
def mU (a0:Int) (a1:List aK) (r9:(List Int)) (p10:Int) (p11:List Int):Option ((List Int)) :=
 eW (fun (w:Int × (List Int))=>fB a0 a1 r9 w.1 w.2) (p10,p11)
def gG (a0:Int) (a1:List aK):Option ((List Int) × (List Int) × Int) :=
 (lI a0 a1).bind fun (r1:Bool) =>
 if (!(r1)) = true then
  some ([],[],1)
 else
  if 0 <= (a1.length:Int) ∧ (a1.length:Int) <= (a1.length:Int) ∧ 8 * (a1.length:Int) <= 281474976710656 ∧ (a1.length:Int) <= 9223372036854775807 then
   (mM a0 a1 0 (List.replicate ((a1.length:Int).toNat) (0:Int))).bind fun (r7:(List Int)) =>
   (lE a0 a1 r7).bind fun (r8:(List Int)) =>
   (fY a0 a1 r8).bind fun (r9:(List Int)) =>
   (mU a0 a1 r9 0 r8).bind fun (r14:(List Int)) =>
   (fY a0 a1 r14).bind fun (r15:(List Int)) =>
   some (r14,r15,0)
  else none
def fF (a0:aA) (a1:Int) (a2:Option MI):Option (Int) :=
 if (a0.No == a1) = true then
  some 0
 else
  if dP a0.No then
   some (R6 a0.No 0 a2)
  else none
def tA (a0 a1 a2:Int) (a3:List aA) (p10:MB) (p13:Int) (p14:MI) (p2:Int) (p3:List aC) (p4:List Int) (p8:Int) (r12:aE) (r7:(List aA)) (x17:aA) (p20:List aK) (p21:List Int):Option (Unit) :=
 if dP x17.No then
  if dP 0 then
   if p14.length < 1000000000000 then
    some (())
   else none
  else none
 else none
def jL (a0 a1 a2:Int) (a3:List aA) (p10:MB) (p2:Int) (p3:List aC) (p4:List Int) (p8:Int) (r12:aE) (r7:(List aA)) (p13:Int) (p14:MI) (p15:List aK) (p16:List Int):Option ((Int × MI × (List aK) × (List Int)) ⊕ (MI × (List aK) × (List Int))) :=
 if decide (p13 < (r7.length:Int)) = true then
  (at? r7 p13).bind fun (x17:aA) =>
  (vQ x17).bind fun (r18:aE) =>
  if (!((r18.currency == r12.currency) && (r18.due == r12.due))) = true then
   some (.inl (IntKind.wrap .i64 (p13 + 1),p14,p15,p16))
  else
   (kT x17).bind fun (r19:Int) =>
   if decide (r19 > 0) = true then
    if (p15.length + 1) * 24 <= 140737488355328 then
     if (p16.length + 1) * 8 <= 140737488355328 then
      (tA a0 a1 a2 a3 p10 p13 p14 p2 p3 p4 p8 r12 r7 x17 (p15 ++ [(aK.mk x17.From x17.To r19)]) (p16 ++ [x17.No])).bind fun (r22:Unit) =>
      some (.inl (IntKind.wrap .i64 (p13 + 1),fM x17.No 0 p14,(p15 ++ [(aK.mk x17.From x17.To r19)]),(p16 ++ [x17.No])))
     else none
    else none
   else
    (tA a0 a1 a2 a3 p10 p13 p14 p2 p3 p4 p8 r12 r7 x17 p15 p16).bind fun (r23:Unit) =>
    some (.inl (IntKind.wrap .i64 (p13 + 1),fM x17.No 0 p14,p15,p16))
 else
  some (.inr ((p14,p15,p16)))
def tK (a0 a1 a2:Int) (a3:List aA) (p10:MB) (p2:Int) (p3:List aC) (p4:List Int) (p8:Int) (r12:aE) (r7:(List aA)) (p13:Int) (p14:MI) (p15:List aK) (p16:List Int):Option (MI × (List aK) × (List Int)) :=
 eW (fun (w:Int × MI × (List aK) × (List Int))=>jL a0 a1 a2 a3 p10 p2 p3 p4 p8 r12 r7 w.1 w.2.1 w.2.2.1 w.2.2.2) (p13,p14,p15,p16)
def jJ (a0 a1 a2:Int) (a3:List aA) (p10:MB) (p2:Int) (p3:List aC) (p4:List Int) (p8:Int) (r12:aE) (r27:MI × (List aK) × (List Int)) (r28:(List Int) × (List Int) × Int) (r7:(List aA)) (p29:Int) (p30:MI):Option ((Int × MI) ⊕ (MI)) :=
 if decide (p29 < (r28.1.length:Int)) = true then
  (at? r28.1 p29).bind fun (x31:Int) =>
  if 0 <= p29 ∧ p29.toNat < r27.2.2.length then
   (r27.2.2[p29.toNat]?).bind fun (x32:Int) =>
   if dP x32 then
    if dP x31 then
     if p30.length < 1000000000000 then
      some (.inl (IntKind.wrap .i64 (p29 + 1),fM x32 x31 p30))
     else none
    else none
   else none
  else none
 else
  some (.inr (p30))
def tI (a0 a1 a2:Int) (a3:List aA) (p10:MB) (p2:Int) (p3:List aC) (p4:List Int) (p8:Int) (r12:aE) (r27:MI × (List aK) × (List Int)) (r28:(List Int) × (List Int) × Int) (r7:(List aA)) (p29:Int) (p30:MI):Option (MI) :=
 eW (fun (w:Int × MI)=>jJ a0 a1 a2 a3 p10 p2 p3 p4 p8 r12 r27 r28 r7 w.1 w.2) (p29,p30)
def jN (a0 a1 a2:Int) (a3:List aA) (p2:Int) (p3:List aC) (p4:List Int) (r7:(List aA)) (p8:Int) (p9:MI) (p10:MB):Option ((Int × MI × MB) ⊕ (MI)) :=
 if decide (p8 < (r7.length:Int)) = true then
  (at? r7 p8).bind fun (x11:aA) =>
  (vQ x11).bind fun (r12:aE) =>
  if dP r12.currency then
   if dP r12.due then
    if (!(fT (fC r12.currency r12.due) false p10)) = true then
     if dP r12.currency then
      if dP r12.due then
       if p10.length < 1000000000000 then
        (tK a0 a1 a2 a3 p10 p2 p3 p4 p8 r12 r7 0 p9 [] []).bind fun (r27:MI × (List aK) × (List Int)) =>
        (gG a0 r27.2.1).bind fun (r28:(List Int) × (List Int) × Int) =>
        (tI a0 a1 a2 a3 p10 p2 p3 p4 p8 r12 r27 r28 r7 0 r27.1).bind fun (r34:MI) =>
        some (.inl (IntKind.wrap .i64 (p8 + 1),r34,fM (fC r12.currency r12.due) true p10))
       else none
      else none
     else none
    else
     some (.inl (IntKind.wrap .i64 (p8 + 1),p9,p10))
   else none
  else none
 else
  some (.inr (p9))
def tM (a0 a1 a2:Int) (a3:List aA) (p2:Int) (p3:List aC) (p4:List Int) (r7:(List aA)) (p8:Int) (p9:MI) (p10:MB):Option (MI) :=
 eW (fun (w:Int × MI × MB)=>jN a0 a1 a2 a3 p2 p3 p4 r7 w.1 w.2.1 w.2.2) (p8,p9,p10)
def jQ (a0 a1 a2:Int) (a3:List aA) (p2:Int) (p3:List aC) (p4:List Int) (r36:MI) (r7:(List aA)) (p37:Int) (p38:List aC):Option ((Int × (List aC)) ⊕ ((List aC))) :=
 if decide (p37 < (r7.length:Int)) = true then
  (at? r7 p37).bind fun (x39:aA) =>
  if dP x39.No then
   if decide ((fT x39.No 0 r36) > 0) = true then
    if (p38.length + 1) * 32 <= 140737488355328 then
     some (.inl (IntKind.wrap .i64 (p37 + 1),p38 ++ [(aC.mk 4 x39.Room x39.No (fT x39.No 0 r36))]))
    else none
   else
    some (.inl (IntKind.wrap .i64 (p37 + 1),p38))
  else none
 else
  some (.inr (p38))
def qW (a0 a1 a2:Int) (a3:List aA) (p2:Int) (p3:List aC) (p4:List Int) (r36:MI) (r7:(List aA)) (p37:Int) (p38:List aC):Option ((List aC)) :=
 eW (fun (w:Int × (List aC))=>jQ a0 a1 a2 a3 p2 p3 p4 r36 r7 w.1 w.2) (p37,p38)
def iR (a0 a1 a2:Int) (a3:List aA) (p2:Int) (p3:List aC) (p4:List Int):Option ((Int × (List aC) × (List Int)) ⊕ ((Int × (List aA) × (List aC) × (List Int) × MI) ⊕ ((List aC) × (List Int)))) :=
 if decide (p2 < (a3.length:Int)) = true then
  (at? a3 p2).bind fun (x5:aA) =>
  if qC a3.length 0 p2 then
   (kU a0 a1 x5).bind fun (r6:Int) =>
   if (r6 != 0) = true then
    if (p3.length + 0) * 32 <= 140737488355328 then
     if (p4.length + 1) * 8 <= 140737488355328 then
      some (.inl (IntKind.wrap .i64 (p2 + 1),p3 ++ [],p4 ++ [1]))
     else none
    else none
   else
    if (x5.Kind == 4) = true then
     if decide (x5.Day < a2) = true then
      if (p3.length + 0) * 32 <= 140737488355328 then
       if (p4.length + 1) * 8 <= 140737488355328 then
        some (.inl (IntKind.wrap .i64 (p2 + 1),p3 ++ [],p4 ++ [13]))
       else none
      else none
     else
      (kQ a0 a1 a2 (gX a3 0 p2)).bind fun (r7:(List aA)) =>
      if decide ((r7.length:Int) > 100) = true then
       if (p3.length + 0) * 32 <= 140737488355328 then
        if (p4.length + 1) * 8 <= 140737488355328 then
         some (.inl (IntKind.wrap .i64 (p2 + 1),p3 ++ [],p4 ++ [6]))
        else none
       else none
      else
       (tM a0 a1 a2 a3 p2 p3 p4 r7 0 [] []).bind fun (r36:MI) =>
       (qW a0 a1 a2 a3 p2 p3 p4 r36 r7 0 []).bind fun (r41:(List aC)) =>
       if (p3.length + r41.length) * 32 <= 140737488355328 then
        if (p4.length + 1) * 8 <= 140737488355328 then
         some (.inr (.inl (IntKind.wrap .i64 (p2 + 1),r7,p3 ++ r41,p4 ++ [0],r36)))
        else none
       else none
    else
     if (x5.Kind == 5) = true then
      if (p3.length + 0) * 32 <= 140737488355328 then
       if (p4.length + 1) * 8 <= 140737488355328 then
        some (.inl (IntKind.wrap .i64 (p2 + 1),p3 ++ [],p4 ++ [7]))
       else none
      else none
     else
      if decide (x5.Day > a2) = true then
       if (p3.length + 0) * 32 <= 140737488355328 then
        if (p4.length + 1) * 8 <= 140737488355328 then
         some (.inl (IntKind.wrap .i64 (p2 + 1),p3 ++ [],p4 ++ [16]))
        else none
       else none
      else
       if (p3.length + 0) * 32 <= 140737488355328 then
        if (p4.length + 1) * 8 <= 140737488355328 then
         some (.inl (IntKind.wrap .i64 (p2 + 1),p3 ++ [],p4 ++ [0]))
        else none
       else none
  else none
 else
  some (.inr (.inr ((p3,p4))))
def qZ (a0 a1 a2:Int) (a3:List aA) (p2:Int) (p3:List aC) (p4:List Int):Option ((Int × (List aA) × (List aC) × (List Int) × MI) ⊕ ((List aC) × (List Int))) :=
 eW (fun (w:Int × (List aC) × (List Int))=>iR a0 a1 a2 a3 w.1 w.2.1 w.2.2) (p2,p3,p4)
def jP (a0 a1 a2:Int) (a3:List aA) (p52:Int) (p53:List aC) (p54:List Int) (p55:MI) (x56:aA) (z50:Int × (List aA) × (List aC) × (List Int) × MI) (p58:Int) (p59:aE) (p60:MI):Option ((Int × aE × MI) ⊕ (aE × MI)) :=
 if decide (p58 < (z50.2.1.length:Int)) = true then
  (at? z50.2.1 p58).bind fun (x61:aA) =>
  if dP x61.No then
   if dP x61.No then
    if dP (fT x61.No 0 p55) then
     if p60.length < 1000000000000 then
      if (x61.No == x56.No) = true then
       (vQ x61).bind fun (r62:aE) =>
       some (.inl (IntKind.wrap .i64 (p58 + 1),r62,fM x61.No (fT x61.No 0 p55) p60))
      else
       some (.inl (IntKind.wrap .i64 (p58 + 1),p59,fM x61.No (fT x61.No 0 p55) p60))
     else none
    else none
   else none
  else none
 else
  some (.inr ((p59,p60)))
def pM (a0 a1 a2:Int) (a3:List aA) (p52:Int) (p53:List aC) (p54:List Int) (p55:MI) (x56:aA) (z50:Int × (List aA) × (List aC) × (List Int) × MI) (p58:Int) (p59:aE) (p60:MI):Option (aE × MI) :=
 eW (fun (w:Int × aE × MI)=>jP a0 a1 a2 a3 p52 p53 p54 p55 x56 z50 w.1 w.2.1 w.2.2) (p58,p59,p60)
def uA (a0 a1 a2:Int) (a3:List aA) (p52:Int) (p53:List aC) (p54:List Int) (p66:Int) (p67:MI) (r65:aE × MI) (x56 x70:aA) (z50:Int × (List aA) × (List aC) × (List Int) × MI) (p73:List aK) (p74:List Int):Option (Unit) :=
 if dP x70.No then
  if dP 0 then
   if p67.length < 1000000000000 then
    some (())
   else none
  else none
 else none
def jO (a0 a1 a2:Int) (a3:List aA) (p52:Int) (p53:List aC) (p54:List Int) (r65:aE × MI) (x56:aA) (z50:Int × (List aA) × (List aC) × (List Int) × MI) (p66:Int) (p67:MI) (p68:List aK) (p69:List Int):Option ((Int × MI × (List aK) × (List Int)) ⊕ (MI × (List aK) × (List Int))) :=
 if decide (p66 < (z50.2.1.length:Int)) = true then
  (at? z50.2.1 p66).bind fun (x70:aA) =>
  (vQ x70).bind fun (r71:aE) =>
  if (!((r71.currency == r65.1.currency) && (r71.due == r65.1.due))) = true then
   some (.inl (IntKind.wrap .i64 (p66 + 1),p67,p68,p69))
  else
   (fF x70 x56.No (some r65.2)).bind fun (r72:Int) =>
   if decide (r72 > 0) = true then
    if (p68.length + 1) * 24 <= 140737488355328 then
     if (p69.length + 1) * 8 <= 140737488355328 then
      (uA a0 a1 a2 a3 p52 p53 p54 p66 p67 r65 x56 x70 z50 (p68 ++ [(aK.mk x70.From x70.To r72)]) (p69 ++ [x70.No])).bind fun (r75:Unit) =>
      some (.inl (IntKind.wrap .i64 (p66 + 1),fM x70.No 0 p67,(p68 ++ [(aK.mk x70.From x70.To r72)]),(p69 ++ [x70.No])))
     else none
    else none
   else
    (uA a0 a1 a2 a3 p52 p53 p54 p66 p67 r65 x56 x70 z50 p68 p69).bind fun (r76:Unit) =>
    some (.inl (IntKind.wrap .i64 (p66 + 1),fM x70.No 0 p67,p68,p69))
 else
  some (.inr ((p67,p68,p69)))
def uE (a0 a1 a2:Int) (a3:List aA) (p52:Int) (p53:List aC) (p54:List Int) (r65:aE × MI) (x56:aA) (z50:Int × (List aA) × (List aC) × (List Int) × MI) (p66:Int) (p67:MI) (p68:List aK) (p69:List Int):Option (MI × (List aK) × (List Int)) :=
 eW (fun (w:Int × MI × (List aK) × (List Int))=>jO a0 a1 a2 a3 p52 p53 p54 r65 x56 z50 w.1 w.2.1 w.2.2.1 w.2.2.2) (p66,p67,p68,p69)
def iV (a0 a1 a2:Int) (a3:List aA) (p52:Int) (p53:List aC) (p54:List Int) (r65:aE × MI) (r80:MI × (List aK) × (List Int)) (r81:(List Int) × (List Int) × Int) (z50:Int × (List aA) × (List aC) × (List Int) × MI) (p82:Int) (p83:MI):Option ((Int × MI) ⊕ (MI)) :=
 if decide (p82 < (r81.1.length:Int)) = true then
  (at? r81.1 p82).bind fun (x84:Int) =>
  if 0 <= p82 ∧ p82.toNat < r80.2.2.length then
   (r80.2.2[p82.toNat]?).bind fun (x85:Int) =>
   if dP x85 then
    if dP x84 then
     if p83.length < 1000000000000 then
      some (.inl (IntKind.wrap .i64 (p82 + 1),fM x85 x84 p83))
     else none
    else none
   else none
  else none
 else
  some (.inr (p83))
def rT (a0 a1 a2:Int) (a3:List aA) (p52:Int) (p53:List aC) (p54:List Int) (r65:aE × MI) (r80:MI × (List aK) × (List Int)) (r81:(List Int) × (List Int) × Int) (z50:Int × (List aA) × (List aC) × (List Int) × MI) (p82:Int) (p83:MI):Option (MI) :=
 eW (fun (w:Int × MI)=>iV a0 a1 a2 a3 p52 p53 p54 r65 r80 r81 z50 w.1 w.2) (p82,p83)
def iW (a0 a1 a2:Int) (a3:List aA) (p52:Int) (p53:List aC) (p54:List Int) (r65:aE × MI) (r87:MI) (z50:Int × (List aA) × (List aC) × (List Int) × MI) (p88:Int) (p89:List aC):Option ((Int × (List aC)) ⊕ ((List aC))) :=
 if decide (p88 < (z50.2.1.length:Int)) = true then
  (at? z50.2.1 p88).bind fun (x90:aA) =>
  if dP x90.No then
   if dP x90.No then
    if decide ((IntKind.wrap .i64 ((R6 x90.No 0 (some r65.2)) - (fT x90.No 0 r87))) > 0) = true then
     if (p89.length + 1) * 32 <= 140737488355328 then
      some (.inl (IntKind.wrap .i64 (p88 + 1),p89 ++ [(aC.mk 5 x90.Room x90.No (IntKind.wrap .i64 ((R6 x90.No 0 (some r65.2)) - (fT x90.No 0 r87))))]))
     else none
    else
     some (.inl (IntKind.wrap .i64 (p88 + 1),p89))
   else none
  else none
 else
  some (.inr (p89))
def rP (a0 a1 a2:Int) (a3:List aA) (p52:Int) (p53:List aC) (p54:List Int) (r65:aE × MI) (r87:MI) (z50:Int × (List aA) × (List aC) × (List Int) × MI) (p88:Int) (p89:List aC):Option ((List aC)) :=
 eW (fun (w:Int × (List aC))=>iW a0 a1 a2 a3 p52 p53 p54 r65 r87 z50 w.1 w.2) (p88,p89)
def gZ (a0 a1 a2:Int) (a3:List aA) (z50:Int × (List aA) × (List aC) × (List Int) × MI) (p52:Int) (p53:List aC) (p54:List Int) (p55:MI):Option ((Int × (List aC) × (List Int) × MI) ⊕ ((List aC) × (List Int) × MI)) :=
 if decide (p52 < (a3.length:Int)) = true then
  (at? a3 p52).bind fun (x56:aA) =>
  if qC a3.length 0 p52 then
   (kU a0 a1 x56).bind fun (r57:Int) =>
   if (r57 != 0) = true then
    if (p53.length + 0) * 32 <= 140737488355328 then
     if (p54.length + 1) * 8 <= 140737488355328 then
      some (.inl (IntKind.wrap .i64 (p52 + 1),p53 ++ [],p54 ++ [1],p55))
     else none
    else none
   else
    if (x56.Kind == 4) = true then
     if (p53.length + 0) * 32 <= 140737488355328 then
      if (p54.length + 1) * 8 <= 140737488355328 then
       some (.inl (IntKind.wrap .i64 (p52 + 1),p53 ++ [],p54 ++ [7],p55))
      else none
     else none
    else
     if (x56.Kind == 5) = true then
      if dP x56.No then
       if ((fT x56.No 0 p55) == 0) = true then
        if (p53.length + 0) * 32 <= 140737488355328 then
         if (p54.length + 1) * 8 <= 140737488355328 then
          some (.inl (IntKind.wrap .i64 (p52 + 1),p53 ++ [],p54 ++ [4],p55))
         else none
        else none
       else
        (pM a0 a1 a2 a3 p52 p53 p54 p55 x56 z50 0 (aE.mk 0 0) []).bind fun (r65:aE × MI) =>
        (uE a0 a1 a2 a3 p52 p53 p54 r65 x56 z50 0 p55 [] []).bind fun (r80:MI × (List aK) × (List Int)) =>
        (gG a0 r80.2.1).bind fun (r81:(List Int) × (List Int) × Int) =>
        (rT a0 a1 a2 a3 p52 p53 p54 r65 r80 r81 z50 0 r80.1).bind fun (r87:MI) =>
        (rP a0 a1 a2 a3 p52 p53 p54 r65 r87 z50 0 []).bind fun (r92:(List aC)) =>
        if (p53.length + r92.length) * 32 <= 140737488355328 then
         if (p54.length + 1) * 8 <= 140737488355328 then
          some (.inl (IntKind.wrap .i64 (p52 + 1),p53 ++ r92,p54 ++ [0],r87))
         else none
        else none
      else none
     else
      if (p53.length + 0) * 32 <= 140737488355328 then
       if (p54.length + 1) * 8 <= 140737488355328 then
        some (.inl (IntKind.wrap .i64 (p52 + 1),p53 ++ [],p54 ++ [16],p55))
       else none
      else none
  else none
 else
  some (.inr ((p53,p54,p55)))
def mG (a0 a1 a2:Int) (a3:List aA) (z50:Int × (List aA) × (List aC) × (List Int) × MI) (p52:Int) (p53:List aC) (p54:List Int) (p55:MI):Option ((List aC) × (List Int) × MI) :=
 eW (fun (w:Int × (List aC) × (List Int) × MI)=>gZ a0 a1 a2 a3 z50 w.1 w.2.1 w.2.2.1 w.2.2.2) (p52,p53,p54,p55)
def jU (a0 a1 a2:Int) (a3:List aA):Option ((List aC) × (List Int)) :=
 (qP a0 a1 a2 a3).bind fun (r1:Bool) =>
 if (!(r1)) = true then
  some ([],[])
 else
  (qZ a0 a1 a2 a3 0 [] []).bind fun (r49:(Int × (List aA) × (List aC) × (List Int) × MI) ⊕ ((List aC) × (List Int)))=>Sum.elim (fun z50 =>
  (mG a0 a1 a2 a3 z50 z50.1 z50.2.2.1 z50.2.2.2.1 z50.2.2.2.2).bind fun (r96:(List aC) × (List Int) × MI) =>
   some (r96.1,r96.2.1)) (fun z51 =>
  some (z51.1,z51.2)) r49
def c9 (a0 a1:List aC) (p1:Int):Option ((Int) ⊕ (Unit ⊕ Unit)) :=
 if decide (p1 < (a0.length:Int)) = true then
  (at? a0 p1).bind fun (x2:aC) =>
  (at? a1 p1).bind fun (x3:aC) =>
  if (!((x2.Kind == x3.Kind) && ((x2.Room == x3.Room) && ((x2.No == x3.No) && (x2.Sum == x3.Sum))))) = true then
   some (.inr (.inr (())))
  else
   some (.inl (IntKind.wrap .i64 (p1 + 1)))
 else
  some (.inr (.inl ()))
def j0 (a0 a1:List aC) (p1:Int):Option (Unit ⊕ Unit) :=
 eW (fun (w:Int)=>c9 a0 a1 w) p1
def bU (a0 a1:List aC):Option (Bool) :=
 if ((a0.length:Int) != (a1.length:Int)) = true then
  some false
 else
  (j0 a0 a1 0).bind fun (r4:Unit ⊕ Unit)=>Sum.elim (fun z5 =>
  some true) (fun z6 =>
  some false) r4
def oW (a0 a1 a2:Int) (r96:(List aC) × (List Int) × MI) (z50:Int × (List aA) × (List aC) × (List Int) × MI) (p97:Int) (p98:List aC):Option ((Int × (List aC)) ⊕ ((List aC))) :=
 if decide (p97 < (z50.2.1.length:Int)) = true then
  (at? z50.2.1 p97).bind fun (x99:aA) =>
  if dP x99.No then
   if decide ((fT x99.No 0 r96.2.2) > 0) = true then
    if (p98.length + 1) * 32 <= 140737488355328 then
     some (.inl (IntKind.wrap .i64 (p97 + 1),p98 ++ [(aC.mk 4 x99.Room x99.No (fT x99.No 0 r96.2.2))]))
    else none
   else
    some (.inl (IntKind.wrap .i64 (p97 + 1),p98))
  else none
 else
  some (.inr (p98))
def pX (a0 a1 a2:Int) (r96:(List aC) × (List Int) × MI) (z50:Int × (List aA) × (List aC) × (List Int) × MI) (p97:Int) (p98:List aC):Option ((List aC)) :=
 eW (fun (w:Int × (List aC))=>oW a0 a1 a2 r96 z50 w.1 w.2) (p97,p98)
def qB (a0 a1 a2:Int) (r96:(List aC) × (List Int) × MI) (z50:Int × (List aA) × (List aC) × (List Int) × MI):Option ((List aC)) :=
 (pX a0 a1 a2 r96 z50 0 []).bind fun (r101:(List aC)) =>
 some (r101)
def oO (a0 a1 a2:Int):Option ((Unit) ⊕ (Unit)) :=
 if decide (0 < 0) = true then
  none
 else
  some (.inr (()))
def nM (a0 a1 a2:Int):Option (Unit) :=
 eW (fun (w:Unit)=>oO a0 a1 a2) ()
def nJ (a0 a1 a2:Int):Option (Unit) :=
 (nM a0 a1 a2).bind fun (r104:Unit) =>
 some (())
def gJ (a0 a1 a2:Int) (a3:List aA):Option ((List aC)) :=
 (qP a0 a1 a2 a3).bind fun (r1:Bool) =>
 if (!(r1)) = true then
  some []
 else
  (qZ a0 a1 a2 a3 0 [] []).bind fun (r49:(Int × (List aA) × (List aC) × (List Int) × MI) ⊕ ((List aC) × (List Int)))=>Sum.elim (fun z50 =>
  (mG a0 a1 a2 a3 z50 z50.1 z50.2.2.1 z50.2.2.2.1 z50.2.2.2.2).bind fun (r96:(List aC) × (List Int) × MI) =>
   (qB a0 a1 a2 r96 z50).bind fun (r103:(List aC)) =>
   some r103) (fun z51 =>
  (nJ a0 a1 a2).bind fun (r105:Unit) =>
   some []) r49
def i5:Option (Bool) :=
 (cC 9 0).bind fun (r1:(List aA)) =>
 (jU 3 1 5 r1).bind fun (r2:(List aC) × (List Int)) =>
 (cC 9 0).bind fun (r3:(List aA)) =>
 if (r3.length + 1) * 72 <= 140737488355328 then
  (jU 3 1 5 (r3 ++ [(aA.mk 5 0 6 2 0 0 0 0 0)])).bind fun (r4:(List aC) × (List Int)) =>
  (cC 9 2).bind fun (r5:(List aA)) =>
  (jU 3 1 5 r5).bind fun (r6:(List aC) × (List Int)) =>
  (cC 4 0).bind fun (r7:(List aA)) =>
  (jU 3 1 5 r7).bind fun (r8:(List aC) × (List Int)) =>
  if ((r2.2.length:Int) != 8) = true then
   some false
  else
   (bU r2.1 [(aC.mk 4 0 1 7),(aC.mk 4 0 2 7),(aC.mk 4 0 3 7)]).bind fun (r9:Bool) =>
   if (!(r9)) = true then
    some false
   else
    if (0 + 3) * 32 <= 140737488355328 then
     if ((([]:List aC) ++ [(aC.mk 4 0 1 7),(aC.mk 4 0 2 7),(aC.mk 4 0 3 7)]).length + 3) * 32 <= 140737488355328 then
      (bU r4.1 ((([]:List aC) ++ [(aC.mk 4 0 1 7),(aC.mk 4 0 2 7),(aC.mk 4 0 3 7)]) ++ [(aC.mk 5 0 1 7),(aC.mk 5 0 2 7),(aC.mk 5 0 3 7)])).bind fun (r10:Bool) =>
      if (!(r10)) = true then
       some false
      else
       if ((r6.1.length:Int) != 0) = true then
        some false
       else
        if ((r8.1.length:Int) != 0) = true then
         some false
        else
         (cC 9 0).bind fun (r11:(List aA)) =>
         (gJ 3 1 5 r11).bind fun (r12:(List aC)) =>
         (bU r12 [(aC.mk 4 0 1 7),(aC.mk 4 0 2 7),(aC.mk 4 0 3 7)]).bind fun (r13:Bool) =>
         if r13 = true then
          (gJ 3 1 5 (r3 ++ [(aA.mk 5 0 6 2 0 0 0 0 0)])).bind fun (r14:(List aC)) =>
          if ((r14.length:Int) == 0) = true then
           (cC 9 2).bind fun (r15:(List aA)) =>
           (kQ 3 1 5 r15).bind fun (r16:(List aA)) =>
           if ((r16.length:Int) == 2) = true then
            (kU 3 1 (aA.mk 0 0 0 0 0 0 0 0 0)).bind fun (r17:Int) =>
            some (r17 == 1)
           else
            some false
          else
           some false
         else
          some false
     else none
    else none
 else none
def kC (a0:List aA):Option (Bool) :=
 some (decide ((a0.length:Int) <= 100))
def dO (a0:List aA) (a1:List Int) (p1:Int):Option ((Int) ⊕ (Unit ⊕ Int)) :=
 if decide (p1 < (a0.length:Int)) = true then
  if decide (p1 < (a1.length:Int)) = true then
   (at? a0 p1).bind fun (x2:aA) =>
   if (x2.Kind == 4) = true then
    (at? a1 p1).bind fun (x3:Int) =>
    if (x3 == 0) = true then
     some (.inr (.inr (p1)))
    else
     some (.inl (IntKind.wrap .i64 (p1 + 1)))
   else
    some (.inl (IntKind.wrap .i64 (p1 + 1)))
  else
   some (.inr (.inl ()))
 else
  some (.inr (.inl ()))
def mD (a0:List aA) (a1:List Int) (p1:Int):Option (Unit ⊕ Int) :=
 eW (fun (w:Int)=>dO a0 a1 w) p1
def jV (a0:List aA) (a1:List Int):Option (Int) :=
 (mD a0 a1 0).bind fun (r5:Unit ⊕ Int)=>Sum.elim (fun z6 =>
 some (a0.length:Int)) (fun z7 =>
 some z7) r5
def eA (a0:List aC) (a1 p1:Int):Option ((Int) ⊕ (Unit ⊕ Int)) :=
 if decide (p1 < (a0.length:Int)) = true then
  (at? a0 p1).bind fun (x2:aC) =>
  if (x2.No == a1) = true then
   (at? a0 p1).bind fun (x3:aC) =>
   some (.inr (.inr (x3.Sum)))
  else
   some (.inl (IntKind.wrap .i64 (p1 + 1)))
 else
  some (.inr (.inl ()))
def oV (a0:List aC) (a1 p1:Int):Option (Unit ⊕ Int) :=
 eW (fun (w:Int)=>eA a0 a1 w) p1
def dM (a0:List aC) (a1:Int):Option (Int) :=
 (oV a0 a1 0).bind fun (r5:Unit ⊕ Int)=>Sum.elim (fun z6 =>
 some 0) (fun z7 =>
 some z7) r5
def dV (a0:List Int) (p1 p2:Int):Option ((Int × Int) ⊕ (Int ⊕ Unit)) :=
 if decide (p2 < (a0.length:Int)) = true then
  (at? a0 p2).bind fun (x3:Int) =>
  if decide (x3 < 0) = true then
   some (.inr (.inr (())))
  else
   if decide (x3 > 1099511627776) = true then
    some (.inr (.inr (())))
   else
    some (.inl (IntKind.wrap .i64 (p1 + x3),IntKind.wrap .i64 (p2 + 1)))
 else
  some (.inr (.inl p1))
def pI (a0:List Int) (p1 p2:Int):Option (Int ⊕ Unit) :=
 eW (fun (w:Int × Int)=>dV a0 w.1 w.2) (p1,p2)
def nE (a0:List Int):Option (Int) :=
 if decide ((a0.length:Int) > 100) = true then
  some 0
 else
  (pI a0 0 0).bind fun (r5:Int ⊕ Unit)=>Sum.elim (fun z6 =>
  some z6) (fun z7 =>
  some 0) r5
def bZ (a0 a4:Int) (r1:Bool) (r13:(List aA)) (r3:(List aC) × (List Int)) (r4:(List aC)) (r5:(List aC) × (List Int)) (r6:(List aC)) (p14 p15:Int):Option ((Int × Int) ⊕ (Int)) :=
 if decide (p15 < (r13.length:Int)) = true then
  (at? r13 p15).bind fun (x16:aA) =>
  if (x16.No == a4) = true then
   some (.inl (p15,IntKind.wrap .i64 (p15 + 1)))
  else
   some (.inl (p14,IntKind.wrap .i64 (p15 + 1)))
 else
  some (.inr (p14))
def gH (a0 a4:Int) (r1:Bool) (r13:(List aA)) (r3:(List aC) × (List Int)) (r4:(List aC)) (r5:(List aC) × (List Int)) (r6:(List aC)) (p14 p15:Int):Option (Int) :=
 eW (fun (w:Int × Int)=>bZ a0 a4 r1 r13 r3 r4 r5 r6 w.1 w.2) (p14,p15)
def gE (a0 a4 p21 p22:Int) (p23:List aK) (p29 r1:Bool) (r13:(List aA)) (r18 r25 r26:Int) (r3:(List aC) × (List Int)) (r4:(List aC)) (r5:(List aC) × (List Int)) (r6:(List aC)) (x24:aA):Option (Int × (List aK)) :=
 if p29 = true then
  if (x24.No != a4) = true then
   if decide (r25 > 0) = true then
    if (p23.length + 1) * 24 <= 140737488355328 then
     some ((IntKind.wrap .i64 (p21 + r26),p23 ++ [(aK.mk x24.From x24.To r25)]))
    else none
   else
    some ((p21,p23))
  else
   some ((p21,p23))
 else
  some ((p21,p23))
def gD (a0 a4 p21 p22:Int) (p23:List aK) (r1:Bool) (r13:(List aA)) (r18 r25 r26:Int) (r3:(List aC) × (List Int)) (r4:(List aC)) (r5:(List aC) × (List Int)) (r6:(List aC)) (x24:aA) (p29:Bool):Option ((Int × (List aK)) ⊕ Unit) :=
 if decide (r26 > r25) = true then
  some (.inr (()))
 else
  if (!(p29)) = true then
   if (r26 != r25) = true then
    some (.inr (()))
   else
    (dM (gX r5.1 (r3.1.length:Int) (r5.1.length:Int)) x24.No).bind fun (r30:Int) =>
    if (r30 != (IntKind.wrap .i64 (r25 - r26))) = true then
     some (.inr (()))
    else
     (gE a0 a4 p21 p22 p23 p29 r1 r13 r18 r25 r26 r3 r4 r5 r6 x24).bind fun (r34:Int × (List aK)) =>
     some (.inl (r34.1,r34.2))
  else
   (dM (gX r5.1 (r3.1.length:Int) (r5.1.length:Int)) x24.No).bind fun (r31:Int) =>
   if (r31 != (IntKind.wrap .i64 (r25 - r26))) = true then
    some (.inr (()))
   else
    (gE a0 a4 p21 p22 p23 p29 r1 r13 r18 r25 r26 r3 r4 r5 r6 x24).bind fun (r35:Int × (List aK)) =>
    some (.inl (r35.1,r35.2))
def cJ (a0 a4:Int) (r1:Bool) (r13:(List aA)) (r18:Int) (r3:(List aC) × (List Int)) (r4:(List aC)) (r5:(List aC) × (List Int)) (r6:(List aC)) (p21 p22:Int) (p23:List aK):Option ((Int × Int × (List aK)) ⊕ ((Int × (List aK)) ⊕ Unit)) :=
 if decide (p22 < (r13.length:Int)) = true then
  (at? r13 p22).bind fun (x24:aA) =>
  (dM r4 x24.No).bind fun (r25:Int) =>
  (dM r6 x24.No).bind fun (r26:Int) =>
  (at? r13 r18).bind fun (x27:aA) =>
  if (x24.Currency == x27.Currency) = true then
   (at? r13 r18).bind fun (x28:aA) =>
   (gD a0 a4 p21 p22 p23 r1 r13 r18 r25 r26 r3 r4 r5 r6 x24 (x24.Due == x28.Due)).bind fun (r38:(Int × (List aK)) ⊕ Unit)=>Sum.elim (fun z39 =>
   some (.inl (z39.1,IntKind.wrap .i64 (p22 + 1),z39.2))) (fun z40 =>
   some (.inr (.inr (())))) r38
  else
   (gD a0 a4 p21 p22 p23 r1 r13 r18 r25 r26 r3 r4 r5 r6 x24 false).bind fun (r41:(Int × (List aK)) ⊕ Unit)=>Sum.elim (fun z42 =>
   some (.inl (z42.1,IntKind.wrap .i64 (p22 + 1),z42.2))) (fun z43 =>
   some (.inr (.inr (())))) r41
 else
  some (.inr (.inl (p21,p23)))
def eX (a0 a4:Int) (r1:Bool) (r13:(List aA)) (r18:Int) (r3:(List aC) × (List Int)) (r4:(List aC)) (r5:(List aC) × (List Int)) (r6:(List aC)) (p21 p22:Int) (p23:List aK):Option ((Int × (List aK)) ⊕ Unit) :=
 eW (fun (w:Int × Int × (List aK))=>cJ a0 a4 r1 r13 r18 r3 r4 r5 r6 w.1 w.2.1 w.2.2) (p21,p22,p23)
def cN (a0:Int) (r1:Bool) (r3 r5:(List aC) × (List Int)) (z47:Int × (List aK)) (p49:Int):Option ((Int) ⊕ (Unit ⊕ Unit)) :=
 if decide (p49 < ((gX r5.1 (r3.1.length:Int) (r5.1.length:Int)).length:Int)) = true then
  (at? (gX r5.1 (r3.1.length:Int) (r5.1.length:Int)) p49).bind fun (x50:aC) =>
  if (x50.Kind != 5) = true then
   some (.inr (.inr (())))
  else
   (at? (gX r5.1 (r3.1.length:Int) (r5.1.length:Int)) p49).bind fun (x51:aC) =>
   if decide (x51.Sum < 1) = true then
    some (.inr (.inr (())))
   else
    some (.inl (IntKind.wrap .i64 (p49 + 1)))
 else
  some (.inr (.inl ()))
def eY (a0:Int) (r1:Bool) (r3 r5:(List aC) × (List Int)) (z47:Int × (List aK)) (p49:Int):Option (Unit ⊕ Unit) :=
 eW (fun (w:Int)=>cN a0 r1 r3 r5 z47 w) p49
def iK (a0 a1 a2:Int) (a3:List aA) (a4 a5:Int):Option (Bool) :=
 (i5).bind fun (r1:Bool) =>
 (kC a3).bind fun (r2:Bool) =>
 if (!(r2)) = true then
  some r1
 else
  (jU a0 a1 a2 a3).bind fun (r3:(List aC) × (List Int)) =>
  (gJ a0 a1 a2 a3).bind fun (r4:(List aC)) =>
  if (0 + a3.length) * 72 <= 140737488355328 then
   if ((([]:List aA) ++ a3).length + 1) * 72 <= 140737488355328 then
    (jU a0 a1 a2 ((([]:List aA) ++ a3) ++ [(aA.mk 5 0 a5 a4 0 0 0 0 0)])).bind fun (r5:(List aC) × (List Int)) =>
    (gJ a0 a1 a2 ((([]:List aA) ++ a3) ++ [(aA.mk 5 0 a5 a4 0 0 0 0 0)])).bind fun (r6:(List aC)) =>
    if decide ((r5.1.length:Int) < (r3.1.length:Int)) = true then
     some false
    else
     if qC r5.1.length 0 (r3.1.length:Int) then
      (bU (gX r5.1 0 (r3.1.length:Int)) r3.1).bind fun (r7:Bool) =>
      if (!(r7)) = true then
       some false
      else
       if ((r5.2.length:Int) != (((([]:List aA) ++ a3) ++ [(aA.mk 5 0 a5 a4 0 0 0 0 0)]).length:Int)) = true then
        if r1 = true then
         if ((r5.1.length:Int) == (r3.1.length:Int)) = true then
          (bU r4 r6).bind fun (r9:Bool) =>
          some r9
         else
          some false
        else
         some false
       else
        (at? r5.2 (a3.length:Int)).bind fun (x8:Int) =>
        if (x8 != 0) = true then
         if r1 = true then
          if ((r5.1.length:Int) == (r3.1.length:Int)) = true then
           (bU r4 r6).bind fun (r10:Bool) =>
           some r10
          else
           some false
         else
          some false
        else
         if qC r5.1.length (r3.1.length:Int) (r5.1.length:Int) then
          (jU a0 a1 a2 a3).bind fun (r11:(List aC) × (List Int)) =>
          (jV a3 r11.2).bind fun (r12:Int) =>
          if qC a3.length 0 r12 then
           (kQ a0 a1 a2 (gX a3 0 r12)).bind fun (r13:(List aA)) =>
           (gH a0 a4 r1 r13 r3 r4 r5 r6 (-1) 0).bind fun (r18:Int) =>
           if decide (r18 < 0) = true then
            some false
           else
            (dM r4 a4).bind fun (r19:Int) =>
            if decide (r19 < 1) = true then
             some false
            else
             (dM r6 a4).bind fun (r20:Int) =>
             if (r20 != 0) = true then
              some false
             else
              (eX a0 a4 r1 r13 r18 r3 r4 r5 r6 0 0 []).bind fun (r46:(Int × (List aK)) ⊕ Unit)=>Sum.elim (fun z47 =>
              (eY a0 r1 r3 r5 z47 0).bind fun (r52:Unit ⊕ Unit)=>Sum.elim (fun z53 =>
               (gG a0 z47.2).bind fun (r55:(List Int) × (List Int) × Int) =>
                if r1 = true then
                 if (r55.2.2 == 0) = true then
                  (nE r55.1).bind fun (r56:Int) =>
                  some (r56 == z47.1)
                 else
                  some false
                else
                 some false) (fun z54 =>
               some false) r52) (fun z48 =>
              some false) r46
          else none
         else none
     else none
   else none
  else none
end
end Go.Proofs.Ytiimibimkpimbaa
