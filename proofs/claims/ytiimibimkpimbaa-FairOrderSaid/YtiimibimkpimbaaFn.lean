/- What the functions compute, as plain definitions. Printed by a program. -/
import Derived.Test.YtiimibimkpimbaaTab
set_option linter.unusedVariables false
set_option linter.unusedSimpArgs false
namespace Go.Proofs.Ytiimibimkpimbaa
noncomputable section
open Vm
open Go.RowKit
def aU (a1:Int) (p1:Int) (p2:List aA):Option ((Int × (List aA)) ⊕ ((List aA))) :=
 if decide (p1 ≤ 3) = true then
  if (p1 != a1) = true then
   if (p2.length + 1) * 72 ≤ 140737488355328 then
    some (.inl (IntKind.wrap .i64 (p1 + 1),p2 ++ [(aA.mk 1 0 1 p1 (p1.tmod 3) 0 0 0 0)]))
   else none
  else
   some (.inl (IntKind.wrap .i64 (p1 + 1),p2))
 else
  some (.inr (p2))
def kL (a1:Int) (p1:Int) (p2:List aA):Option ((List aA)) :=
 eX (fun (w:Int × (List aA))=>aU a1 w.1 w.2) (p1,p2)
def b9 (a0:Int) (a1:Int):Option ((List aA)) :=
 (kL a1 1 [(aA.mk 3 0 0 0 0 0 0 a0 0),(aA.mk 0 0 1 1 0 1 0 30 10),(aA.mk 0 0 1 2 1 2 0 30 7),(aA.mk 0 0 1 3 2 0 0 30 8)]).bind fun (r4:(List aA)) =>
 if (r4.length + 1) * 72 ≤ 140737488355328 then
  some (r4 ++ [(aA.mk 4 0 5 0 0 0 0 0 0)])
 else none
def dY (a0:Int) (a1:Int):Option (Bool) :=
 if decide (a0 ≥ 0) = true then
  some (decide (a0 < a1))
 else
  some false
def pY (a0:Int) (a1:Int) (a2:Int) (a3:List aA):Option (Bool) :=
 (dY (IntKind.wrap .i64 (a0 - 1)) 40).bind fun (r1:Bool) =>
 if r1 = true then
  (dY (IntKind.wrap .i64 (a1 - 1)) 8).bind fun (r2:Bool) =>
  if r2 = true then
   (dY a2 100001).bind fun (r3:Bool) =>
   if r3 = true then
    some (decide ((a3.length:Int) ≤ 400))
   else
    some false
  else
   some false
 else
  some false
def pR (a1:Int) (a2:aA) (p4:Bool):Option (Bool × Int × Int × Int) :=
 if (a2.Kind == 3) = true then
  if p4 = true then
   if decide (a2.Due ≥ a2.Day) = true then
    some ((decide (a2.Due ≤ 100000),a2.Room,0,a2.Due))
   else
    some ((false,a2.Room,0,a2.Due))
  else
   some ((false,a2.Room,0,a2.Due))
 else
  if (a2.Kind == 5) = true then
   some ((p4,0,a2.No,0))
  else
   if (a2.Kind == 4) = true then
    some ((p4,0,0,0))
   else
    some ((false,0,0,0))
def dF (a1:Int) (a2:aA) (p18:Bool) (p19:Int) (p20:Int) (p21:Int) (p22:Int) (p23:Int) (p24:Int) (p25:Int):Option (Int) :=
 if (!(p18)) = true then
  some (1)
 else
  if (!((a2.Kind == a2.Kind) && ((p19 == a2.Room) && ((a2.Day == a2.Day) && ((p20 == a2.No) && ((p21 == a2.From) && ((p22 == a2.To) && ((p23 == a2.Currency) && ((p24 == a2.Due) && (p25 == a2.Sum)))))))))) = true then
   some (1)
  else
   (dY a2.Room a1).bind fun (r26:Bool) =>
   if (!(r26)) = true then
    some (1)
   else
    (dY a2.No 1000).bind fun (r27:Bool) =>
    if (!(r27)) = true then
     some (1)
    else
     some (0)
def lW (a0:Int) (a1:Int) (a2:aA) (p4:Bool):Option (Int) :=
 if (a2.Kind == 0) = true then
  if p4 = true then
   (dY a2.From a0).bind fun (r5:Bool) =>
   if r5 = true then
    (dY a2.To a0).bind fun (r6:Bool) =>
    if r6 = true then
     if (a2.From != a2.To) = true then
      (dY a2.Currency 8).bind fun (r7:Bool) =>
      if r7 = true then
       (dY a2.Due 100001).bind fun (r8:Bool) =>
       if r8 = true then
        (dY (IntKind.wrap .i64 (a2.Sum - 1)) 1099511627776).bind fun (r9:Bool) =>
        (dF a1 a2 r9 a2.Room a2.No a2.From a2.To a2.Currency a2.Due a2.Sum).bind fun (r29:Int) =>
        some (r29)
       else
        (dF a1 a2 false a2.Room a2.No a2.From a2.To a2.Currency a2.Due a2.Sum).bind fun (r30:Int) =>
        some (r30)
      else
       (dF a1 a2 false a2.Room a2.No a2.From a2.To a2.Currency a2.Due a2.Sum).bind fun (r31:Int) =>
       some (r31)
     else
      (dF a1 a2 false a2.Room a2.No a2.From a2.To a2.Currency a2.Due a2.Sum).bind fun (r32:Int) =>
      some (r32)
    else
     (dF a1 a2 false a2.Room a2.No a2.From a2.To a2.Currency a2.Due a2.Sum).bind fun (r33:Int) =>
     some (r33)
   else
    (dF a1 a2 false a2.Room a2.No a2.From a2.To a2.Currency a2.Due a2.Sum).bind fun (r34:Int) =>
    some (r34)
  else
   (dF a1 a2 false a2.Room a2.No a2.From a2.To a2.Currency a2.Due a2.Sum).bind fun (r35:Int) =>
   some (r35)
 else
  if (a2.Kind == 1) = true then
   if (a2.Kind == 1) = true then
    if p4 = true then
     (dY a2.From a0).bind fun (r10:Bool) =>
     (dF a1 a2 r10 a2.Room a2.No a2.From 0 0 0 0).bind fun (r36:Int) =>
     some (r36)
    else
     (dF a1 a2 false a2.Room a2.No a2.From 0 0 0 0).bind fun (r37:Int) =>
     some (r37)
   else
    (pR a1 a2 p4).bind fun (r15:Bool × Int × Int × Int) =>
    (dF a1 a2 r15.1 r15.2.1 r15.2.2.1 0 0 0 r15.2.2.2 0).bind fun (r38:Int) =>
    some (r38)
  else
   if (a2.Kind == 2) = true then
    if p4 = true then
     (dY a2.From a0).bind fun (r16:Bool) =>
     (dF a1 a2 r16 a2.Room a2.No a2.From 0 0 0 0).bind fun (r39:Int) =>
     some (r39)
    else
     (dF a1 a2 false a2.Room a2.No a2.From 0 0 0 0).bind fun (r40:Int) =>
     some (r40)
   else
    (pR a1 a2 p4).bind fun (r17:Bool × Int × Int × Int) =>
    (dF a1 a2 r17.1 r17.2.1 r17.2.2.1 0 0 0 r17.2.2.2 0).bind fun (r41:Int) =>
    some (r41)
def kB (a0:Int) (a1:Int) (a2:aA):Option (Int) :=
 (dY (IntKind.wrap .i64 (a0 - 1)) 40).bind fun (r1:Bool) =>
 if r1 = true then
  (dY (IntKind.wrap .i64 (a1 - 1)) 8).bind fun (r2:Bool) =>
  if r2 = true then
   (dY a2.Day 100001).bind fun (r3:Bool) =>
   (lW a0 a1 a2 r3).bind fun (r43:Int) =>
   some r43
  else
   (lW a0 a1 a2 false).bind fun (r44:Int) =>
   some r44
 else
  (lW a0 a1 a2 false).bind fun (r45:Int) =>
  some r45
def kN (a0:aA) (a1:Int) (a2:Int):Option (Bool) :=
 if (a0.Kind == 3) = true then
  if (a0.Room == a1) = true then
   if decide (a0.Day ≤ a2) = true then
    some (decide (a2 ≤ a0.Due))
   else
    some false
  else
   some false
 else
  some false
def bD (a0:List aA) (a1:Int) (a2:Int) (p1:Int):Option ((Int) ⊕ (Unit ⊕ Int)) :=
 if decide (p1 < (a0.length:Int)) = true then
  (at? a0 p1).bind fun (x2:aA) =>
  (kN x2 a1 a2).bind fun (r3:Bool) =>
  if r3 = true then
   some (.inr (.inr (p1)))
  else
   some (.inl (IntKind.wrap .i64 (p1 + 1)))
 else
  some (.inr (.inl ()))
def dB (a0:List aA) (a1:Int) (a2:Int) (p1:Int):Option (Unit ⊕ Int) :=
 eX (fun (w:Int)=>bD a0 a1 a2 w) p1
def cR (a0:List aA) (a1:Int) (a2:Int):Option (Int) :=
 (dB a0 a1 a2 0).bind fun (r5:Unit ⊕ Int)=>Sum.elim (fun z6 =>
 some (-1)) (fun z7 =>
 some z7) r5
def cE (a0:List aA) (a1:Int) (a2:Int):Option (Bool) :=
 (cR a0 a1 a2).bind fun (r1:Int) =>
 some (decide (r1 ≥ 0))
def oV (a0:List aA) (a1:Int) (a2:Int):Option (Bool) :=
 (cE a0 a1 a2).bind fun (r1:Bool) =>
 some r1
def jJ (a0:aA) (a1:aA):Option (Bool) :=
 if (a0.Kind == 0) = true then
  if (a0.No == a1.No) = true then
   some (!((a0.Kind == a1.Kind) && ((a0.Room == a1.Room) && ((a0.Day == a1.Day) && ((a0.No == a1.No) && ((a0.From == a1.From) && ((a0.To == a1.To) && ((a0.Currency == a1.Currency) && ((a0.Due == a1.Due) && (a0.Sum == a1.Sum))))))))))
  else
   some false
 else
  some false
def bE (a0:List aA) (a1:aA) (p1:Int):Option ((Int) ⊕ (Unit ⊕ Int)) :=
 if decide (p1 < (a0.length:Int)) = true then
  (at? a0 p1).bind fun (x2:aA) =>
  (jJ x2 a1).bind fun (r3:Bool) =>
  if r3 = true then
   some (.inr (.inr (p1)))
  else
   some (.inl (IntKind.wrap .i64 (p1 + 1)))
 else
  some (.inr (.inl ()))
def dC (a0:List aA) (a1:aA) (p1:Int):Option (Unit ⊕ Int) :=
 eX (fun (w:Int)=>bE a0 a1 w) p1
def cQ (a0:List aA) (a1:aA):Option (Int) :=
 (dC a0 a1 0).bind fun (r5:Unit ⊕ Int)=>Sum.elim (fun z6 =>
 some (-1)) (fun z7 =>
 some z7) r5
def bU (a0:List aA) (a1:aA):Option (Bool) :=
 (cQ a0 a1).bind fun (r1:Int) =>
 some (decide (r1 ≥ 0))
def bJ (a0:List aA) (a1:aA) (p1:Int):Option ((Int) ⊕ (Unit ⊕ Int)) :=
 if decide (p1 < (a0.length:Int)) = true then
  (at? a0 p1).bind fun (x2:aA) =>
  if ((a1.Kind == x2.Kind) && ((a1.Room == x2.Room) && ((a1.Day == x2.Day) && ((a1.No == x2.No) && ((a1.From == x2.From) && ((a1.To == x2.To) && ((a1.Currency == x2.Currency) && ((a1.Due == x2.Due) && (a1.Sum == x2.Sum))))))))) = true then
   some (.inr (.inr (p1)))
  else
   some (.inl (IntKind.wrap .i64 (p1 + 1)))
 else
  some (.inr (.inl ()))
def dX (a0:List aA) (a1:aA) (p1:Int):Option (Unit ⊕ Int) :=
 eX (fun (w:Int)=>bJ a0 a1 w) p1
def dI (a0:List aA) (a1:aA):Option (Int) :=
 (dX a0 a1 0).bind fun (r4:Unit ⊕ Int)=>Sum.elim (fun z5 =>
 some (-1)) (fun z6 =>
 some z6) r4
def cC (a0:List aA) (a1:aA):Option (Bool) :=
 (dI a0 a1).bind fun (r1:Int) =>
 some (decide (r1 ≥ 0))
def iB (a0:aA) (a1:Int) (a2:Int) (a3:Int):Option (Bool) :=
 if (a0.Kind == a1) = true then
  if (a0.No == a2) = true then
   some (a0.From == a3)
  else
   some false
 else
  some false
def bG (a0:List aA) (a1:Int) (a2:Int) (a3:Int) (p1:Int):Option ((Int) ⊕ (Unit ⊕ Int)) :=
 if decide (p1 < (a0.length:Int)) = true then
  (at? a0 p1).bind fun (x2:aA) =>
  (iB x2 a1 a2 a3).bind fun (r3:Bool) =>
  if r3 = true then
   some (.inr (.inr (p1)))
  else
   some (.inl (IntKind.wrap .i64 (p1 + 1)))
 else
  some (.inr (.inl ()))
def dD (a0:List aA) (a1:Int) (a2:Int) (a3:Int) (p1:Int):Option (Unit ⊕ Int) :=
 eX (fun (w:Int)=>bG a0 a1 a2 a3 w) p1
def cU (a0:List aA) (a1:Int) (a2:Int) (a3:Int):Option (Int) :=
 (dD a0 a1 a2 a3 0).bind fun (r5:Unit ⊕ Int)=>Sum.elim (fun z6 =>
 some (-1)) (fun z7 =>
 some z7) r5
def cD (a0:List aA) (a1:Int) (a2:Int) (a3:Int):Option (Bool) :=
 (cU a0 a1 a2 a3).bind fun (r1:Int) =>
 some (decide (r1 ≥ 0))
def gD (a0:Int) (a1:Int) (a2:Int) (a3:List aA):Option (Bool) :=
 (cD a3 a0 a1 a2).bind fun (r1:Bool) =>
 some r1
def d9 (a0:List aA):Option (List aA):=if okK (fun (x:aA)=>x.No) a0 = true then some (isK (fun (x:aA)=>x.No) a0) else none
def fI (a0:Int) (a1:Int) (a2:Int) (a3:List aA) (p2:Int) (p3:List aA):Option ((Int × (List aA)) ⊕ ((List aA))) :=
 if decide (p2 < (a3.length:Int)) = true then
  (at? a3 p2).bind fun (x4:aA) =>
  (kB a0 a1 x4).bind fun (r5:Int) =>
  if (r5 == 0) = true then
   if (x4.Kind == 3) = true then
    if decide (x4.Day ≤ a2) = true then
     if (p3.length + 1) * 72 ≤ 140737488355328 then
      some (.inl (IntKind.wrap .i64 (p2 + 1),p3 ++ [x4]))
     else none
    else
     some (.inl (IntKind.wrap .i64 (p2 + 1),p3))
   else
    some (.inl (IntKind.wrap .i64 (p2 + 1),p3))
  else
   some (.inl (IntKind.wrap .i64 (p2 + 1),p3))
 else
  some (.inr (p3))
def nB (a0:Int) (a1:Int) (a2:Int) (a3:List aA) (p2:Int) (p3:List aA):Option ((List aA)) :=
 eX (fun (w:Int × (List aA))=>fI a0 a1 a2 a3 w.1 w.2) (p2,p3)
def fK (a0:Int) (a1:Int) (a2:Int) (a3:List aA) (r7:(List aA)) (p8:Int) (p9:List aA):Option ((Int × (List aA)) ⊕ ((List aA))) :=
 if decide (p8 < (a3.length:Int)) = true then
  (at? a3 p8).bind fun (x10:aA) =>
  (kB a0 a1 x10).bind fun (r11:Int) =>
  if (r11 == 0) = true then
   if decide (x10.Kind ≤ 2) = true then
    if decide (x10.Day ≤ a2) = true then
     (oV r7 x10.Room x10.Day).bind fun (r12:Bool) =>
     if r12 = true then
      if (p9.length + 1) * 72 ≤ 140737488355328 then
       some (.inl (IntKind.wrap .i64 (p8 + 1),p9 ++ [x10]))
      else none
     else
      some (.inl (IntKind.wrap .i64 (p8 + 1),p9))
    else
     some (.inl (IntKind.wrap .i64 (p8 + 1),p9))
   else
    some (.inl (IntKind.wrap .i64 (p8 + 1),p9))
  else
   some (.inl (IntKind.wrap .i64 (p8 + 1),p9))
 else
  some (.inr (p9))
def nM (a0:Int) (a1:Int) (a2:Int) (a3:List aA) (r7:(List aA)) (p8:Int) (p9:List aA):Option ((List aA)) :=
 eX (fun (w:Int × (List aA))=>fK a0 a1 a2 a3 r7 w.1 w.2) (p8,p9)
def fJ (a2:Int) (r14:(List aA)) (r7:(List aA)) (p15:Int) (p16:List aA):Option ((Int × (List aA)) ⊕ ((List aA))) :=
 if decide (p15 < (r14.length:Int)) = true then
  (at? r14 p15).bind fun (x17:aA) =>
  (bU r14 x17).bind fun (r18:Bool) =>
  if (x17.Kind != 0) = true then
   some (.inl (IntKind.wrap .i64 (p15 + 1),p16))
  else
   if r18 = true then
    some (.inl (IntKind.wrap .i64 (p15 + 1),p16))
   else
    (cC p16 x17).bind fun (r19:Bool) =>
    if r19 = true then
     some (.inl (IntKind.wrap .i64 (p15 + 1),p16))
    else
     (oV r7 x17.Room a2).bind fun (r20:Bool) =>
     if (!(r20)) = true then
      some (.inl (IntKind.wrap .i64 (p15 + 1),p16))
     else
      (gD 1 x17.No x17.To r14).bind fun (r21:Bool) =>
      if r21 = true then
       (gD 2 x17.No x17.From r14).bind fun (r22:Bool) =>
       if (!(r22)) = true then
        (gD 2 x17.No x17.To r14).bind fun (r23:Bool) =>
        if (!(r23)) = true then
         if (p16.length + 1) * 72 ≤ 140737488355328 then
          some (.inl (IntKind.wrap .i64 (p15 + 1),p16 ++ [x17]))
         else none
        else
         some (.inl (IntKind.wrap .i64 (p15 + 1),p16))
       else
        some (.inl (IntKind.wrap .i64 (p15 + 1),p16))
      else
       some (.inl (IntKind.wrap .i64 (p15 + 1),p16))
 else
  some (.inr (p16))
def kK (a2:Int) (r14:(List aA)) (r7:(List aA)) (p15:Int) (p16:List aA):Option ((List aA)) :=
 eX (fun (w:Int × (List aA))=>fJ a2 r14 r7 w.1 w.2) (p15,p16)
def lT (a0:Int) (a1:Int) (a2:Int) (a3:List aA):Option ((List aA)) :=
 (pY a0 a1 a2 a3).bind fun (r1:Bool) =>
 if (!(r1)) = true then
  some []
 else
  (nB a0 a1 a2 a3 0 []).bind fun (r7:(List aA)) =>
  (nM a0 a1 a2 a3 r7 0 []).bind fun (r14:(List aA)) =>
  (kK a2 r14 r7 0 []).bind fun (r25:(List aA)) =>
  (d9 r25).bind fun (r26:(List aA)) =>
  some r26
def uQ (a0:aA):Option (aE) :=
 some (aE.mk a0.Currency a0.Due)
def kC (a0:aA):Option (Int) :=
 some a0.Sum
def eY (a0:Int) (a1:List aM) (p1:Int):Option ((Int) ⊕ (Unit ⊕ Unit)) :=
 if decide (p1 < (a1.length:Int)) = true then
  (at? a1 p1).bind fun (x2:aM) =>
  if decide (x2.From < 0) = true then
   some (.inr (.inr (())))
  else
   if decide (x2.From ≥ a0) = true then
    some (.inr (.inr (())))
   else
    if decide (x2.To < 0) = true then
     some (.inr (.inr (())))
    else
     if decide (x2.To ≥ a0) = true then
      some (.inr (.inr (())))
     else
      if (x2.From == x2.To) = true then
       some (.inr (.inr (())))
      else
       if decide (x2.Sum < 1) = true then
        some (.inr (.inr (())))
       else
        if decide (x2.Sum > 1099511627776) = true then
         some (.inr (.inr (())))
        else
         some (.inl (IntKind.wrap .i64 (p1 + 1)))
 else
  some (.inr (.inl ()))
def lS (a0:Int) (a1:List aM) (p1:Int):Option (Unit ⊕ Unit) :=
 eX (fun (w:Int)=>eY a0 a1 w) p1
def kV (a0:Int) (a1:List aM):Option (Bool) :=
 if decide (a0 < 0) = true then
  some false
 else
  if decide (a0 > 40) = true then
   some false
  else
   if decide ((a1.length:Int) > 100) = true then
    some false
   else
    (lS a0 a1 0).bind fun (r3:Unit ⊕ Unit)=>Sum.elim (fun z4 =>
    some true) (fun z5 =>
    some false) r3
def jZ (a0:List aM) (a1:List Int) (p1:Int) (x3:aM) (p6:List aB):Option ((List aB)) :=
 (at? a1 p1).bind fun (x7:Int) =>
 if decide (x7 > 0) = true then
  (at? a1 p1).bind fun (x8:Int) =>
  if (p6.length + 1) * 48 ≤ 140737488355328 then
   some (p6 ++ [(aB.mk p1 x3.To x3.From 1 x8 true)])
  else none
 else
  some (p6)
def eK (a0:List aM) (a1:List Int) (p1:Int) (p2:List aB):Option ((Int × (List aB)) ⊕ ((List aB))) :=
 if decide (p1 < (a0.length:Int)) = true then
  (at? a0 p1).bind fun (x3:aM) =>
  (at? a1 p1).bind fun (x4:Int) =>
  if decide (x4 < x3.Sum) = true then
   (at? a1 p1).bind fun (x5:Int) =>
   if (p2.length + 1) * 48 ≤ 140737488355328 then
    (jZ a0 a1 p1 x3 (p2 ++ [(aB.mk p1 x3.From x3.To (-1) (IntKind.wrap .i64 (x3.Sum - x5)) false)])).bind fun (r10:(List aB)) =>
    some (.inl (IntKind.wrap .i64 (p1 + 1),r10))
   else none
  else
   (jZ a0 a1 p1 x3 p2).bind fun (r11:(List aB)) =>
   some (.inl (IntKind.wrap .i64 (p1 + 1),r11))
 else
  some (.inr (p2))
def oU (a0:List aM) (a1:List Int) (p1:Int) (p2:List aB):Option ((List aB)) :=
 eX (fun (w:Int × (List aB))=>eK a0 a1 w.1 w.2) (p1,p2)
def gP (a0:List aM) (a1:List Int):Option ((List aB)) :=
 (oU a0 a1 0 []).bind fun (r13:(List aB)) =>
 some r13
def gX (a0:List Int) (a1:Int):Option ((List Int)):=aKg a0 a1
def gV (a0:aD) (a1:aB):Option (aD) :=
 some (aD.mk (IntKind.wrap .i64 (a0.c + a1.cost)) (IntKind.wrap .i64 (a0.steps + 1)) a0.fine)
def fU (a0:aD) (a1:aD):Option (Bool) :=
 if a0.fine = true then
  if (!(a1.fine)) = true then
   some true
  else
   if decide (a0.c < a1.c) = true then
    some true
   else
    if (a0.c == a1.c) = true then
     some (decide (a0.steps < a1.steps))
    else
     some false
 else
  some false
def dK (a0:Int) (a1:List aB) (a2:List Int) (p1:Int) (p2:List aD):Option ((Int × (List aD)) ⊕ ((List aD))) :=
 if decide (p1 < a0) = true then
  (at? a2 p1).bind fun (x3:Int) =>
  if 0 ≤ p1 ∧ p1.toNat < p2.length then
   (p2[p1.toNat]?).bind fun (x4:aD) =>
   some (.inl (IntKind.wrap .i64 (p1 + 1),p2.set p1.toNat (aD.mk x4.c x4.steps (decide (x3 > 0)))))
  else none
 else
  some (.inr (p2))
def jU (a0:Int) (a1:List aB) (a2:List Int) (p1:Int) (p2:List aD):Option ((List aD)) :=
 eX (fun (w:Int × (List aD))=>dK a0 a1 a2 w.1 w.2) (p1,p2)
def eW (a1:List aB) (p11:Bool) (p12:Int) (p13:List aD) (p14:List Int):Option ((Bool × Int × (List aD) × (List Int)) ⊕ (Bool × (List aD) × (List Int))) :=
 if decide (p12 < (a1.length:Int)) = true then
  (at? a1 p12).bind fun (x15:aB) =>
  if 0 ≤ x15.from_ ∧ x15.from_.toNat < p13.length then
   (p13[x15.from_.toNat]?).bind fun (x16:aD) =>
   (gV x16 x15).bind fun (r17:aD) =>
   if 0 ≤ x15.to ∧ x15.to.toNat < p13.length then
    (p13[x15.to.toNat]?).bind fun (x18:aD) =>
    (fU r17 x18).bind fun (r19:Bool) =>
    if r19 = true then
     if 0 ≤ x15.to ∧ x15.to.toNat < p13.length then
      (p13[x15.to.toNat]?).bind fun (x20:aD) =>
      if 0 ≤ x15.to ∧ x15.to.toNat < p14.length then
       (p14[x15.to.toNat]?).bind fun (x21:Int) =>
       some (.inl (true,IntKind.wrap .i64 (p12 + 1),p13.set x15.to.toNat r17,p14.set x15.to.toNat p12))
      else none
     else none
    else
     some (.inl (p11,IntKind.wrap .i64 (p12 + 1),p13,p14))
   else none
  else none
 else
  some (.inr ((p11,p13,p14)))
def jV (a1:List aB) (p11:Bool) (p12:Int) (p13:List aD) (p14:List Int):Option (Bool × (List aD) × (List Int)) :=
 eX (fun (w:Bool × Int × (List aD) × (List Int))=>eW a1 w.1 w.2.1 w.2.2.1 w.2.2.2) (p11,p12,p13,p14)
def gG (a1:List aB) (p8:Bool) (p9:List aD) (p10:List Int):Option ((Bool × (List aD) × (List Int)) ⊕ ((List aD) × (List Int))) :=
 if p8 = true then
  (jV a1 false 0 p9 p10).bind fun (r25:Bool × (List aD) × (List Int)) =>
  some (.inl (r25.1,r25.2.1,r25.2.2))
 else
  some (.inr ((p9,p10)))
def jX (a1:List aB) (p8:Bool) (p9:List aD) (p10:List Int):Option ((List aD) × (List Int)) :=
 eX (fun (w:Bool × (List aD) × (List Int))=>gG a1 w.1 w.2.1 w.2.2) (p8,p9,p10)
def gM (a0:Int) (a1:List aB) (a2:List Int):Option ((List aD) × (List Int)) :=
 if 0 ≤ a0 ∧ a0 ≤ a0 ∧ 24 * a0 ≤ 281474976710656 ∧ a0 ≤ 9223372036854775807 then
  (jU a0 a1 a2 0 (List.replicate a0.toNat ((aD.mk 0 0 false):aD))).bind fun (r6:(List aD)) =>
  (gX [(-1)] (r6.length:Int)).bind fun (r7:(List Int)) =>
  (jX a1 true r6 r7).bind fun (r28:(List aD) × (List Int)) =>
  some (r28.1,r28.2)
 else none
def gF (a0:aB) (a1:List Int) (p1:Int):Option ((List Int)) :=
 if 0 ≤ a0.due ∧ a0.due.toNat < a1.length then
  (a1[a0.due.toNat]?).bind fun (x2:Int) =>
  if 0 ≤ a0.due ∧ a0.due.toNat < a1.length then
   (a1[a0.due.toNat]?).bind fun (x3:Int) =>
   some (a1.set a0.due.toNat (IntKind.wrap .i64 (x2 + p1)))
  else none
 else none
def fQ (a0:aB) (a1:List Int) (a2:Int):Option ((List Int)) :=
 if a0.back = true then
  (gF a0 a1 (IntKind.wrap .i64 (0 - a2))).bind fun (r5:(List Int)) =>
  some r5
 else
  (gF a0 a1 a2).bind fun (r6:(List Int)) =>
  some r6
def dR (a0:Int) (a1:List aM) (a2:List Int) (p1:Int) (p2:List Int):Option ((Int × (List Int)) ⊕ ((List Int))) :=
 if decide (p1 < (a1.length:Int)) = true then
  (at? a1 p1).bind fun (x3:aM) =>
  if 0 ≤ x3.To ∧ x3.To.toNat < p2.length then
   (p2[x3.To.toNat]?).bind fun (x4:Int) =>
   if 0 ≤ p1 ∧ p1.toNat < a2.length then
    (a2[p1.toNat]?).bind fun (x5:Int) =>
    if 0 ≤ x3.To ∧ x3.To.toNat < p2.length then
     (p2[x3.To.toNat]?).bind fun (x6:Int) =>
     if 0 ≤ x3.From ∧ x3.From.toNat < (p2.set x3.To.toNat (IntKind.wrap .i64 (x4 + x5))).length then
      ((p2.set x3.To.toNat (IntKind.wrap .i64 (x4 + x5)))[x3.From.toNat]?).bind fun (x7:Int) =>
      if 0 ≤ p1 ∧ p1.toNat < a2.length then
       (a2[p1.toNat]?).bind fun (x8:Int) =>
       if 0 ≤ x3.From ∧ x3.From.toNat < (p2.set x3.To.toNat (IntKind.wrap .i64 (x4 + x5))).length then
        ((p2.set x3.To.toNat (IntKind.wrap .i64 (x4 + x5)))[x3.From.toNat]?).bind fun (x9:Int) =>
        some (.inl (IntKind.wrap .i64 (p1 + 1),(p2.set x3.To.toNat (IntKind.wrap .i64 (x4 + x5))).set x3.From.toNat (IntKind.wrap .i64 (x7 - x8))))
       else none
      else none
     else none
    else none
   else none
  else none
 else
  some (.inr (p2))
def kA (a0:Int) (a1:List aM) (a2:List Int) (p1:Int) (p2:List Int):Option ((List Int)) :=
 eX (fun (w:Int × (List Int))=>dR a0 a1 a2 w.1 w.2) (p1,p2)
def bS (a0:Int) (a1:List aM) (p12:List Int) (p13:List Int) (r14:(List aB)) (r15:(List aD) × (List Int)) (p16:Int) (p17:Int):Option ((Int × Int) ⊕ (Int)) :=
 if decide (p17 < a0) = true then
  if 0 ≤ p17 ∧ p17.toNat < p12.length then
   (p12[p17.toNat]?).bind fun (x18:Int) =>
   if decide (x18 < 0) = true then
    if decide (p16 < 0) = true then
     if 0 ≤ p17 ∧ p17.toNat < r15.1.length then
      (r15.1[p17.toNat]?).bind fun (x19:aD) =>
      if x19.fine = true then
       some (.inl (p17,IntKind.wrap .i64 (p17 + 1)))
      else
       if decide (p16 ≥ 0) = true then
        if 0 ≤ p17 ∧ p17.toNat < r15.1.length then
         (r15.1[p17.toNat]?).bind fun (x20:aD) =>
         if 0 ≤ p16 ∧ p16.toNat < r15.1.length then
          (r15.1[p16.toNat]?).bind fun (x21:aD) =>
          (fU x20 x21).bind fun (r22:Bool) =>
          if r22 = true then
           some (.inl (p17,IntKind.wrap .i64 (p17 + 1)))
          else
           some (.inl (p16,IntKind.wrap .i64 (p17 + 1)))
         else none
        else none
       else
        some (.inl (p16,IntKind.wrap .i64 (p17 + 1)))
     else none
    else
     if decide (p16 ≥ 0) = true then
      if 0 ≤ p17 ∧ p17.toNat < r15.1.length then
       (r15.1[p17.toNat]?).bind fun (x23:aD) =>
       if 0 ≤ p16 ∧ p16.toNat < r15.1.length then
        (r15.1[p16.toNat]?).bind fun (x24:aD) =>
        (fU x23 x24).bind fun (r25:Bool) =>
        if r25 = true then
         some (.inl (p17,IntKind.wrap .i64 (p17 + 1)))
        else
         some (.inl (p16,IntKind.wrap .i64 (p17 + 1)))
       else none
      else none
     else
      some (.inl (p16,IntKind.wrap .i64 (p17 + 1)))
   else
    some (.inl (p16,IntKind.wrap .i64 (p17 + 1)))
  else none
 else
  some (.inr (p16))
def j9 (a0:Int) (a1:List aM) (p12:List Int) (p13:List Int) (r14:(List aB)) (r15:(List aD) × (List Int)) (p16:Int) (p17:Int):Option (Int) :=
 eX (fun (w:Int × Int)=>bS a0 a1 p12 p13 r14 r15 w.1 w.2) (p16,p17)
def eZ (a0:Int) (a1:List aM) (p12:List Int) (p13:List Int) (r14:(List aB)) (r15:(List aD) × (List Int)) (r27:Int) (p29:Int) (p30:Int):Option ((Int × Int) ⊕ (Int × Int)) :=
 if 0 ≤ p30 ∧ p30.toNat < r15.2.length then
  (r15.2[p30.toNat]?).bind fun (x31:Int) =>
  if decide (x31 ≥ 0) = true then
   if 0 ≤ p30 ∧ p30.toNat < r15.2.length then
    (r15.2[p30.toNat]?).bind fun (x32:Int) =>
    if 0 ≤ x32 ∧ x32.toNat < r14.length then
     (r14[x32.toNat]?).bind fun (x33:aB) =>
     if 0 ≤ p30 ∧ p30.toNat < r15.2.length then
      (r15.2[p30.toNat]?).bind fun (x34:Int) =>
      if 0 ≤ x34 ∧ x34.toNat < r14.length then
       (r14[x34.toNat]?).bind fun (x35:aB) =>
       some (.inl ((if x33.most < p29 then x33.most else p29),x35.from_))
      else none
     else none
    else none
   else none
  else
   some (.inr ((p29,p30)))
 else none
def gK (a0:Int) (a1:List aM) (p12:List Int) (p13:List Int) (r14:(List aB)) (r15:(List aD) × (List Int)) (r27:Int) (p29:Int) (p30:Int):Option (Int × Int) :=
 eX (fun (w:Int × Int)=>eZ a0 a1 p12 p13 r14 r15 r27 w.1 w.2) (p29,p30)
def fB (a0:Int) (a1:List aM) (p12:List Int) (r14:(List aB)) (r15:(List aD) × (List Int)) (r27:Int) (r38:Int × Int) (x39:Int) (p40:Int) (p41:List Int):Option ((Int × (List Int)) ⊕ ((List Int))) :=
 if 0 ≤ p40 ∧ p40.toNat < r15.2.length then
  (r15.2[p40.toNat]?).bind fun (x42:Int) =>
  if decide (x42 ≥ 0) = true then
   if 0 ≤ p40 ∧ p40.toNat < r15.2.length then
    (r15.2[p40.toNat]?).bind fun (x43:Int) =>
    if 0 ≤ x43 ∧ x43.toNat < r14.length then
     (r14[x43.toNat]?).bind fun (x44:aB) =>
     (fQ x44 p41 (if x39 < r38.1 then x39 else r38.1)).bind fun (r45:(List Int)) =>
     if 0 ≤ p40 ∧ p40.toNat < r15.2.length then
      (r15.2[p40.toNat]?).bind fun (x46:Int) =>
      if 0 ≤ x46 ∧ x46.toNat < r14.length then
       (r14[x46.toNat]?).bind fun (x47:aB) =>
       some (.inl (x47.from_,r45))
      else none
     else none
    else none
   else none
  else
   some (.inr (p41))
 else none
def gL (a0:Int) (a1:List aM) (p12:List Int) (r14:(List aB)) (r15:(List aD) × (List Int)) (r27:Int) (r38:Int × Int) (x39:Int) (p40:Int) (p41:List Int):Option ((List Int)) :=
 eX (fun (w:Int × (List Int))=>fB a0 a1 p12 r14 r15 r27 r38 x39 w.1 w.2) (p40,p41)
def eE (a0:Int) (a1:List aM) (p12:List Int) (p13:List Int):Option (((List Int) × (List Int)) ⊕ ((List Int))) :=
 (gP a1 p13).bind fun (r14:(List aB)) =>
 (gM a0 r14 p12).bind fun (r15:(List aD) × (List Int)) =>
 (j9 a0 a1 p12 p13 r14 r15 (-1) 0).bind fun (r27:Int) =>
 if decide (r27 < 0) = true then
  some (.inr (p13))
 else
  if 0 ≤ r27 ∧ r27.toNat < p12.length then
   (p12[r27.toNat]?).bind fun (x28:Int) =>
   (gK a0 a1 p12 p13 r14 r15 r27 (IntKind.wrap .i64 (0 - x28)) r27).bind fun (r38:Int × Int) =>
   if 0 ≤ r38.2 ∧ r38.2.toNat < p12.length then
    (p12[r38.2.toNat]?).bind fun (x39:Int) =>
    (gL a0 a1 p12 r14 r15 r27 r38 x39 r27 p13).bind fun (r49:(List Int)) =>
    if 0 ≤ r38.2 ∧ r38.2.toNat < p12.length then
     (p12[r38.2.toNat]?).bind fun (x50:Int) =>
     if 0 ≤ r38.2 ∧ r38.2.toNat < p12.length then
      (p12[r38.2.toNat]?).bind fun (x51:Int) =>
      if 0 ≤ r27 ∧ r27.toNat < (p12.set r38.2.toNat (IntKind.wrap .i64 (x50 - (if x39 < r38.1 then x39 else r38.1)))).length then
       ((p12.set r38.2.toNat (IntKind.wrap .i64 (x50 - (if x39 < r38.1 then x39 else r38.1))))[r27.toNat]?).bind fun (x52:Int) =>
       if 0 ≤ r27 ∧ r27.toNat < (p12.set r38.2.toNat (IntKind.wrap .i64 (x50 - (if x39 < r38.1 then x39 else r38.1)))).length then
        ((p12.set r38.2.toNat (IntKind.wrap .i64 (x50 - (if x39 < r38.1 then x39 else r38.1))))[r27.toNat]?).bind fun (x53:Int) =>
        some (.inl ((p12.set r38.2.toNat (IntKind.wrap .i64 (x50 - (if x39 < r38.1 then x39 else r38.1)))).set r27.toNat (IntKind.wrap .i64 (x52 + (if x39 < r38.1 then x39 else r38.1))),r49))
       else none
      else none
     else none
    else none
   else none
  else none
def nL (a0:Int) (a1:List aM) (p12:List Int) (p13:List Int):Option ((List Int)) :=
 eX (fun (w:(List Int) × (List Int))=>eE a0 a1 w.1 w.2) (p12,p13)
def kJ (a0:Int) (a1:List aM) (a2:List Int):Option ((List Int)) :=
 if 0 ≤ a0 ∧ a0 ≤ a0 ∧ 8 * a0 ≤ 281474976710656 ∧ a0 ≤ 9223372036854775807 then
  (kA a0 a1 a2 0 (List.replicate a0.toNat (0:Int))).bind fun (r11:(List Int)) =>
  (nL a0 a1 r11 a2).bind fun (r55:(List Int)) =>
  some r55
 else none
def gU (a0:Int) (a1:aB):Option (Int) :=
 some (IntKind.wrap .i64 (a0 + a1.cost))
def oI (a0:Int):Option (Bool) :=
 some (a0 != a0)
def pC (a0:Int) (a1:Int):Option (Bool) :=
 (oI a0).bind fun (r1:Bool) =>
 if r1 = true then
  (oI a1).bind fun (r2:Bool) =>
  if (!(r2)) = true then
   some true
  else
   some (decide (a0 < a1))
 else
  some (decide (a0 < a1))
def eA (r1:(List aB)) (p6:Bool) (p7:Int) (p8:List Int) (p9:List Int):Option ((Bool × Int × (List Int) × (List Int)) ⊕ (Bool × (List Int) × (List Int))) :=
 if decide (p7 < (r1.length:Int)) = true then
  if 0 ≤ p7 ∧ p7.toNat < r1.length then
   (r1[p7.toNat]?).bind fun (x10:aB) =>
   if 0 ≤ x10.from_ ∧ x10.from_.toNat < p8.length then
    (p8[x10.from_.toNat]?).bind fun (x11:Int) =>
    (gU x11 x10).bind fun (r12:Int) =>
    if 0 ≤ x10.to ∧ x10.to.toNat < p8.length then
     (p8[x10.to.toNat]?).bind fun (x13:Int) =>
     (pC r12 x13).bind fun (r14:Bool) =>
     if r14 = true then
      if 0 ≤ x10.to ∧ x10.to.toNat < p8.length then
       (p8[x10.to.toNat]?).bind fun (x15:Int) =>
       if 0 ≤ x10.to ∧ x10.to.toNat < p9.length then
        (p9[x10.to.toNat]?).bind fun (x16:Int) =>
        some (.inl (true,IntKind.wrap .i64 (p7 + 1),p8.set x10.to.toNat r12,p9.set x10.to.toNat p7))
       else none
      else none
     else
      some (.inl (p6,IntKind.wrap .i64 (p7 + 1),p8,p9))
    else none
   else none
  else none
 else
  some (.inr ((p6,p8,p9)))
def iX (r1:(List aB)) (p6:Bool) (p7:Int) (p8:List Int) (p9:List Int):Option (Bool × (List Int) × (List Int)) :=
 eX (fun (w:Bool × Int × (List Int) × (List Int))=>eA r1 w.1 w.2.1 w.2.2.1 w.2.2.2) (p6,p7,p8,p9)
def fW (r1:(List aB)) (p3:Bool) (p4:List Int) (p5:List Int):Option ((Bool × (List Int) × (List Int)) ⊕ ((List Int) × (List Int))) :=
 if p3 = true then
  (iX r1 false 0 p4 p5).bind fun (r20:Bool × (List Int) × (List Int)) =>
  some (.inl (r20.1,r20.2.1,r20.2.2))
 else
  some (.inr ((p4,p5)))
def iW (r1:(List aB)) (p3:Bool) (p4:List Int) (p5:List Int):Option ((List Int) × (List Int)) :=
 eX (fun (w:Bool × (List Int) × (List Int))=>fW r1 w.1 w.2.1 w.2.2) (p3,p4,p5)
def fS (a0:Int) (a1:List aM) (a2:List Int):Option ((List Int)) :=
 if 0 ≤ a0 ∧ a0 ≤ a0 ∧ 8 * a0 ≤ 281474976710656 ∧ a0 ≤ 9223372036854775807 then
  (gP a1 a2).bind fun (r1:(List aB)) =>
  (gX [(-1)] ((List.replicate a0.toNat (0:Int)).length:Int)).bind fun (r2:(List Int)) =>
  (iW r1 true (List.replicate a0.toNat (0:Int)) r2).bind fun (r23:(List Int) × (List Int)) =>
  some r23.1
 else none
def eN (a0:Int) (a1:List aM) (a3:List Int) (a4:Int) (p5:List Int) (r8:(List aB)) (p9:Int) (p10:List aB):Option ((Int × (List aB)) ⊕ ((List aB))) :=
 if decide (p9 < (r8.length:Int)) = true then
  if 0 ≤ p9 ∧ p9.toNat < r8.length then
   (r8[p9.toNat]?).bind fun (x11:aB) =>
   if decide (x11.due > a4) = true then
    (at? a3 x11.to).bind fun (x12:Int) =>
    (at? a3 x11.from_).bind fun (x13:Int) =>
    if (x12 == (IntKind.wrap .i64 (x13 + x11.cost))) = true then
     if (p10.length + 1) * 48 ≤ 140737488355328 then
      some (.inl (IntKind.wrap .i64 (p9 + 1),p10 ++ [x11]))
     else none
    else
     some (.inl (IntKind.wrap .i64 (p9 + 1),p10))
   else
    some (.inl (IntKind.wrap .i64 (p9 + 1),p10))
  else none
 else
  some (.inr (p10))
def mD (a0:Int) (a1:List aM) (a3:List Int) (a4:Int) (p5:List Int) (r8:(List aB)) (p9:Int) (p10:List aB):Option ((List aB)) :=
 eX (fun (w:Int × (List aB))=>eN a0 a1 a3 a4 p5 r8 w.1 w.2) (p9,p10)
def eJ (a0:Int) (a1:List aM) (a3:List Int) (a4:Int) (p5:List Int) (r15:(List aB)) (x16:aM) (p18:Int) (p19:List aB):Option ((Int × (List aB)) ⊕ ((List aB))) :=
 if decide (p18 < (r15.length:Int)) = true then
  if 0 ≤ p18 ∧ p18.toNat < p19.length then
   (p19[p18.toNat]?).bind fun (x20:aB) =>
   some (.inl (IntKind.wrap .i64 (p18 + 1),p19.set p18.toNat (aB.mk x20.due x20.from_ x20.to 0 x20.most x20.back)))
  else none
 else
  some (.inr (p19))
def lR (a0:Int) (a1:List aM) (a3:List Int) (a4:Int) (p5:List Int) (r15:(List aB)) (x16:aM) (p18:Int) (p19:List aB):Option ((List aB)) :=
 eX (fun (w:Int × (List aB))=>eJ a0 a1 a3 a4 p5 r15 x16 w.1 w.2) (p18,p19)
def fV (a0:Int) (a1:List aM) (a3:List Int) (a4:Int) (p5:List Int) (r22:(List aB)) (r23:(List aD) × (List Int)) (p29:Int) (p30:Int):Option ((Int × Int) ⊕ (Int)) :=
 if 0 ≤ p30 ∧ p30.toNat < r23.2.length then
  (r23.2[p30.toNat]?).bind fun (x31:Int) =>
  if decide (x31 ≥ 0) = true then
   if 0 ≤ p30 ∧ p30.toNat < r23.2.length then
    (r23.2[p30.toNat]?).bind fun (x32:Int) =>
    if 0 ≤ x32 ∧ x32.toNat < r22.length then
     (r22[x32.toNat]?).bind fun (x33:aB) =>
     if 0 ≤ p30 ∧ p30.toNat < r23.2.length then
      (r23.2[p30.toNat]?).bind fun (x34:Int) =>
      if 0 ≤ x34 ∧ x34.toNat < r22.length then
       (r22[x34.toNat]?).bind fun (x35:aB) =>
       some (.inl ((if x33.most < p29 then x33.most else p29),x35.from_))
      else none
     else none
    else none
   else none
  else
   some (.inr (p29))
 else none
def iR (a0:Int) (a1:List aM) (a3:List Int) (a4:Int) (p5:List Int) (r22:(List aB)) (r23:(List aD) × (List Int)) (p29:Int) (p30:Int):Option (Int) :=
 eX (fun (w:Int × Int)=>fV a0 a1 a3 a4 p5 r22 r23 w.1 w.2) (p29,p30)
def fR (a0:Int) (a1:List aM) (a3:List Int) (a4:Int) (r22:(List aB)) (r23:(List aD) × (List Int)) (r37:Int) (p39:Int) (p40:List Int):Option ((Int × (List Int)) ⊕ ((List Int))) :=
 if 0 ≤ p39 ∧ p39.toNat < r23.2.length then
  (r23.2[p39.toNat]?).bind fun (x41:Int) =>
  if decide (x41 ≥ 0) = true then
   if 0 ≤ p39 ∧ p39.toNat < r23.2.length then
    (r23.2[p39.toNat]?).bind fun (x42:Int) =>
    if 0 ≤ x42 ∧ x42.toNat < r22.length then
     (r22[x42.toNat]?).bind fun (x43:aB) =>
     (fQ x43 p40 r37).bind fun (r44:(List Int)) =>
     if 0 ≤ p39 ∧ p39.toNat < r23.2.length then
      (r23.2[p39.toNat]?).bind fun (x45:Int) =>
      if 0 ≤ x45 ∧ x45.toNat < r22.length then
       (r22[x45.toNat]?).bind fun (x46:aB) =>
       some (.inl (x46.from_,r44))
      else none
     else none
    else none
   else none
  else
   some (.inr (p40))
 else none
def iP (a0:Int) (a1:List aM) (a3:List Int) (a4:Int) (r22:(List aB)) (r23:(List aD) × (List Int)) (r37:Int) (p39:Int) (p40:List Int):Option ((List Int)) :=
 eX (fun (w:Int × (List Int))=>fR a0 a1 a3 a4 r22 r23 r37 w.1 w.2) (p39,p40)
def dV (a0:Int) (a1:List aM) (a3:List Int) (a4:Int) (p5:List Int):Option (((List Int)) ⊕ (((List Int)) ⊕ ((List Int)))) :=
 if 0 ≤ a4 ∧ a4.toNat < p5.length then
  (p5[a4.toNat]?).bind fun (x6:Int) =>
  (at? a1 a4).bind fun (x7:aM) =>
  if decide (x6 < x7.Sum) = true then
   (gP a1 p5).bind fun (r8:(List aB)) =>
   (mD a0 a1 a3 a4 p5 r8 0 []).bind fun (r15:(List aB)) =>
   if 0 ≤ a0 ∧ a0 ≤ a0 ∧ 8 * a0 ≤ 281474976710656 ∧ a0 ≤ 9223372036854775807 then
    (at? a1 a4).bind fun (x16:aM) =>
    if 0 ≤ x16.To ∧ x16.To.toNat < (List.replicate a0.toNat (0:Int)).length then
     ((List.replicate a0.toNat (0:Int))[x16.To.toNat]?).bind fun (x17:Int) =>
     (lR a0 a1 a3 a4 p5 r15 x16 0 r15).bind fun (r22:(List aB)) =>
     (gM a0 r22 ((List.replicate a0.toNat (0:Int)).set x16.To.toNat 1)).bind fun (r23:(List aD) × (List Int)) =>
     (at? a1 a4).bind fun (x24:aM) =>
     if 0 ≤ x24.From ∧ x24.From.toNat < r23.1.length then
      (r23.1[x24.From.toNat]?).bind fun (x25:aD) =>
      if (!(x25.fine)) = true then
       some (.inr (.inr (p5)))
      else
       (at? a1 a4).bind fun (x26:aM) =>
       if 0 ≤ a4 ∧ a4.toNat < p5.length then
        (p5[a4.toNat]?).bind fun (x27:Int) =>
        (at? a1 a4).bind fun (x28:aM) =>
        (iR a0 a1 a3 a4 p5 r22 r23 (IntKind.wrap .i64 (x26.Sum - x27)) x28.From).bind fun (r37:Int) =>
        (at? a1 a4).bind fun (x38:aM) =>
        (iP a0 a1 a3 a4 r22 r23 r37 x38.From p5).bind fun (r48:(List Int)) =>
        if 0 ≤ a4 ∧ a4.toNat < r48.length then
         (r48[a4.toNat]?).bind fun (x49:Int) =>
         if 0 ≤ a4 ∧ a4.toNat < r48.length then
          (r48[a4.toNat]?).bind fun (x50:Int) =>
          some (.inl (r48.set a4.toNat (IntKind.wrap .i64 (x49 + r37))))
         else none
        else none
       else none
     else none
    else none
   else none
  else
   some (.inr (.inl p5))
 else none
def o3 (a0:Int) (a1:List aM) (a3:List Int) (a4:Int) (p5:List Int):Option (((List Int)) ⊕ ((List Int))) :=
 eX (fun (w:(List Int))=>dV a0 a1 a3 a4 w) p5
def mV (a0:Int) (a1:List aM) (a2:List Int) (a3:List Int) (a4:Int):Option ((List Int)) :=
 (at? a1 a4).bind fun (x1:aM) =>
 (at? a3 x1.To).bind fun (x2:Int) =>
 (at? a1 a4).bind fun (x3:aM) =>
 (at? a3 x3.From).bind fun (x4:Int) =>
 if (x2 != (IntKind.wrap .i64 (x4 - 1))) = true then
  some a2
 else
  (o3 a0 a1 a3 a4 a2).bind fun (r53:((List Int)) ⊕ ((List Int)))=>Sum.elim (fun z54 =>
  some z54) (fun z55 =>
  some z55) r53
def eH (a0:Int) (a1:List aM) (p2:Int) (p3:List Int):Option ((Int × (List Int)) ⊕ ((List Int))) :=
 if decide (p2 < (a1.length:Int)) = true then
  (at? a1 p2).bind fun (x4:aM) =>
  if 0 ≤ p2 ∧ p2.toNat < p3.length then
   (p3[p2.toNat]?).bind fun (x5:Int) =>
   some (.inl (IntKind.wrap .i64 (p2 + 1),p3.set p2.toNat x4.Sum))
  else none
 else
  some (.inr (p3))
def mF (a0:Int) (a1:List aM) (p2:Int) (p3:List Int):Option ((List Int)) :=
 eX (fun (w:Int × (List Int))=>eH a0 a1 w.1 w.2) (p2,p3)
def fA (a0:Int) (a1:List aM) (r9:(List Int)) (p10:Int) (p11:List Int):Option ((Int × (List Int)) ⊕ ((List Int))) :=
 if decide (p10 < (a1.length:Int)) = true then
  (mV a0 a1 p11 r9 p10).bind fun (r12:(List Int)) =>
  some (.inl (IntKind.wrap .i64 (p10 + 1),r12))
 else
  some (.inr (p11))
def lY (a0:Int) (a1:List aM) (r9:(List Int)) (p10:Int) (p11:List Int):Option ((List Int)) :=
 eX (fun (w:Int × (List Int))=>fA a0 a1 r9 w.1 w.2) (p10,p11)
def iK (a0:Int) (a1:List aM):Option ((List Int) × (List Int) × Int) :=
 (kV a0 a1).bind fun (r1:Bool) =>
 if (!(r1)) = true then
  some ([],[],1)
 else
  if 0 ≤ (a1.length:Int) ∧ (a1.length:Int) ≤ (a1.length:Int) ∧ 8 * (a1.length:Int) ≤ 281474976710656 ∧ (a1.length:Int) ≤ 9223372036854775807 then
   (mF a0 a1 0 (List.replicate ((a1.length:Int).toNat) (0:Int))).bind fun (r7:(List Int)) =>
   (kJ a0 a1 r7).bind fun (r8:(List Int)) =>
   (fS a0 a1 r8).bind fun (r9:(List Int)) =>
   (lY a0 a1 r9 0 r8).bind fun (r14:(List Int)) =>
   (fS a0 a1 r14).bind fun (r15:(List Int)) =>
   some (r14,r15,0)
  else none
def fF (a0:aA) (a1:Int) (a2:Option MI):Option (Int) :=
 if (a0.No == a1) = true then
  some 0
 else
  if dO a0.No then
   some (R9 a0.No 0 a2)
  else none
def tH (a0:Int) (a1:Int) (a2:Int) (a3:List aA) (p10:MB) (p13:Int) (p14:MI) (p2:Int) (p3:List aC) (p4:List Int) (p8:Int) (r12:aE) (r7:(List aA)) (x17:aA) (p20:List aM) (p21:List Int):Option (Unit) :=
 if dO x17.No then
  if dO 0 then
   if p14.length < 1000000000000 then
    some (())
   else none
  else none
 else none
def jC (a0:Int) (a1:Int) (a2:Int) (a3:List aA) (p10:MB) (p2:Int) (p3:List aC) (p4:List Int) (p8:Int) (r12:aE) (r7:(List aA)) (p13:Int) (p14:MI) (p15:List aM) (p16:List Int):Option ((Int × MI × (List aM) × (List Int)) ⊕ (MI × (List aM) × (List Int))) :=
 if decide (p13 < (r7.length:Int)) = true then
  (at? r7 p13).bind fun (x17:aA) =>
  (uQ x17).bind fun (r18:aE) =>
  if (!((r18.currency == r12.currency) && (r18.due == r12.due))) = true then
   some (.inl (IntKind.wrap .i64 (p13 + 1),p14,p15,p16))
  else
   (kC x17).bind fun (r19:Int) =>
   if decide (r19 > 0) = true then
    if (p15.length + 1) * 24 ≤ 140737488355328 then
     if (p16.length + 1) * 8 ≤ 140737488355328 then
      (tH a0 a1 a2 a3 p10 p13 p14 p2 p3 p4 p8 r12 r7 x17 (p15 ++ [(aM.mk x17.From x17.To r19)]) (p16 ++ [x17.No])).bind fun (r22:Unit) =>
      some (.inl (IntKind.wrap .i64 (p13 + 1),fL x17.No 0 p14,(p15 ++ [(aM.mk x17.From x17.To r19)]),(p16 ++ [x17.No])))
     else none
    else none
   else
    (tH a0 a1 a2 a3 p10 p13 p14 p2 p3 p4 p8 r12 r7 x17 p15 p16).bind fun (r23:Unit) =>
    some (.inl (IntKind.wrap .i64 (p13 + 1),fL x17.No 0 p14,p15,p16))
 else
  some (.inr ((p14,p15,p16)))
def sD (a0:Int) (a1:Int) (a2:Int) (a3:List aA) (p10:MB) (p2:Int) (p3:List aC) (p4:List Int) (p8:Int) (r12:aE) (r7:(List aA)) (p13:Int) (p14:MI) (p15:List aM) (p16:List Int):Option (MI × (List aM) × (List Int)) :=
 eX (fun (w:Int × MI × (List aM) × (List Int))=>jC a0 a1 a2 a3 p10 p2 p3 p4 p8 r12 r7 w.1 w.2.1 w.2.2.1 w.2.2.2) (p13,p14,p15,p16)
def jA (a0:Int) (a1:Int) (a2:Int) (a3:List aA) (p10:MB) (p2:Int) (p3:List aC) (p4:List Int) (p8:Int) (r12:aE) (r27:MI × (List aM) × (List Int)) (r28:(List Int) × (List Int) × Int) (r7:(List aA)) (p29:Int) (p30:MI):Option ((Int × MI) ⊕ (MI)) :=
 if decide (p29 < (r28.1.length:Int)) = true then
  (at? r28.1 p29).bind fun (x31:Int) =>
  if 0 ≤ p29 ∧ p29.toNat < r27.2.2.length then
   (r27.2.2[p29.toNat]?).bind fun (x32:Int) =>
   if dO x32 then
    if dO x31 then
     if p30.length < 1000000000000 then
      some (.inl (IntKind.wrap .i64 (p29 + 1),fL x32 x31 p30))
     else none
    else none
   else none
  else none
 else
  some (.inr (p30))
def sG (a0:Int) (a1:Int) (a2:Int) (a3:List aA) (p10:MB) (p2:Int) (p3:List aC) (p4:List Int) (p8:Int) (r12:aE) (r27:MI × (List aM) × (List Int)) (r28:(List Int) × (List Int) × Int) (r7:(List aA)) (p29:Int) (p30:MI):Option (MI) :=
 eX (fun (w:Int × MI)=>jA a0 a1 a2 a3 p10 p2 p3 p4 p8 r12 r27 r28 r7 w.1 w.2) (p29,p30)
def jE (a0:Int) (a1:Int) (a2:Int) (a3:List aA) (p2:Int) (p3:List aC) (p4:List Int) (r7:(List aA)) (p8:Int) (p9:MI) (p10:MB):Option ((Int × MI × MB) ⊕ (MI)) :=
 if decide (p8 < (r7.length:Int)) = true then
  (at? r7 p8).bind fun (x11:aA) =>
  (uQ x11).bind fun (r12:aE) =>
  if dO r12.currency then
   if dO r12.due then
    if (!(fT (fC r12.currency r12.due) false p10)) = true then
     if dO r12.currency then
      if dO r12.due then
       if p10.length < 1000000000000 then
        (sD a0 a1 a2 a3 p10 p2 p3 p4 p8 r12 r7 0 p9 [] []).bind fun (r27:MI × (List aM) × (List Int)) =>
        (iK a0 r27.2.1).bind fun (r28:(List Int) × (List Int) × Int) =>
        (sG a0 a1 a2 a3 p10 p2 p3 p4 p8 r12 r27 r28 r7 0 r27.1).bind fun (r34:MI) =>
        some (.inl (IntKind.wrap .i64 (p8 + 1),r34,fL (fC r12.currency r12.due) true p10))
       else none
      else none
     else none
    else
     some (.inl (IntKind.wrap .i64 (p8 + 1),p9,p10))
   else none
  else none
 else
  some (.inr (p9))
def sP (a0:Int) (a1:Int) (a2:Int) (a3:List aA) (p2:Int) (p3:List aC) (p4:List Int) (r7:(List aA)) (p8:Int) (p9:MI) (p10:MB):Option (MI) :=
 eX (fun (w:Int × MI × MB)=>jE a0 a1 a2 a3 p2 p3 p4 r7 w.1 w.2.1 w.2.2) (p8,p9,p10)
def jH (a0:Int) (a1:Int) (a2:Int) (a3:List aA) (p2:Int) (p3:List aC) (p4:List Int) (r36:MI) (r7:(List aA)) (p37:Int) (p38:List aC):Option ((Int × (List aC)) ⊕ ((List aC))) :=
 if decide (p37 < (r7.length:Int)) = true then
  (at? r7 p37).bind fun (x39:aA) =>
  if dO x39.No then
   if decide ((fT x39.No 0 r36) > 0) = true then
    if (p38.length + 1) * 32 ≤ 140737488355328 then
     some (.inl (IntKind.wrap .i64 (p37 + 1),p38 ++ [(aC.mk 4 x39.Room x39.No (fT x39.No 0 r36))]))
    else none
   else
    some (.inl (IntKind.wrap .i64 (p37 + 1),p38))
  else none
 else
  some (.inr (p38))
def qC (a0:Int) (a1:Int) (a2:Int) (a3:List aA) (p2:Int) (p3:List aC) (p4:List Int) (r36:MI) (r7:(List aA)) (p37:Int) (p38:List aC):Option ((List aC)) :=
 eX (fun (w:Int × (List aC))=>jH a0 a1 a2 a3 p2 p3 p4 r36 r7 w.1 w.2) (p37,p38)
def iE (a0:Int) (a1:Int) (a2:Int) (a3:List aA) (p2:Int) (p3:List aC) (p4:List Int):Option ((Int × (List aC) × (List Int)) ⊕ ((Int × (List aA) × (List aC) × (List Int) × MI) ⊕ ((List aC) × (List Int)))) :=
 if decide (p2 < (a3.length:Int)) = true then
  (at? a3 p2).bind fun (x5:aA) =>
  if o0 a3.length 0 p2 then
   (kB a0 a1 x5).bind fun (r6:Int) =>
   if (r6 != 0) = true then
    if (p3.length + 0) * 32 ≤ 140737488355328 then
     if (p4.length + 1) * 8 ≤ 140737488355328 then
      some (.inl (IntKind.wrap .i64 (p2 + 1),p3 ++ [],p4 ++ [1]))
     else none
    else none
   else
    if (x5.Kind == 4) = true then
     if decide (x5.Day < a2) = true then
      if (p3.length + 0) * 32 ≤ 140737488355328 then
       if (p4.length + 1) * 8 ≤ 140737488355328 then
        some (.inl (IntKind.wrap .i64 (p2 + 1),p3 ++ [],p4 ++ [13]))
       else none
      else none
     else
      (lT a0 a1 a2 (nO a3 0 p2)).bind fun (r7:(List aA)) =>
      if decide ((r7.length:Int) > 100) = true then
       if (p3.length + 0) * 32 ≤ 140737488355328 then
        if (p4.length + 1) * 8 ≤ 140737488355328 then
         some (.inl (IntKind.wrap .i64 (p2 + 1),p3 ++ [],p4 ++ [6]))
        else none
       else none
      else
       (sP a0 a1 a2 a3 p2 p3 p4 r7 0 [] []).bind fun (r36:MI) =>
       (qC a0 a1 a2 a3 p2 p3 p4 r36 r7 0 []).bind fun (r41:(List aC)) =>
       if (p3.length + r41.length) * 32 ≤ 140737488355328 then
        if (p4.length + 1) * 8 ≤ 140737488355328 then
         some (.inr (.inl (IntKind.wrap .i64 (p2 + 1),r7,p3 ++ r41,p4 ++ [0],r36)))
        else none
       else none
    else
     if (x5.Kind == 5) = true then
      if (p3.length + 0) * 32 ≤ 140737488355328 then
       if (p4.length + 1) * 8 ≤ 140737488355328 then
        some (.inl (IntKind.wrap .i64 (p2 + 1),p3 ++ [],p4 ++ [7]))
       else none
      else none
     else
      if decide (x5.Day > a2) = true then
       if (p3.length + 0) * 32 ≤ 140737488355328 then
        if (p4.length + 1) * 8 ≤ 140737488355328 then
         some (.inl (IntKind.wrap .i64 (p2 + 1),p3 ++ [],p4 ++ [16]))
        else none
       else none
      else
       if (p3.length + 0) * 32 ≤ 140737488355328 then
        if (p4.length + 1) * 8 ≤ 140737488355328 then
         some (.inl (IntKind.wrap .i64 (p2 + 1),p3 ++ [],p4 ++ [0]))
        else none
       else none
  else none
 else
  some (.inr (.inr ((p3,p4))))
def qB (a0:Int) (a1:Int) (a2:Int) (a3:List aA) (p2:Int) (p3:List aC) (p4:List Int):Option ((Int × (List aA) × (List aC) × (List Int) × MI) ⊕ ((List aC) × (List Int))) :=
 eX (fun (w:Int × (List aC) × (List Int))=>iE a0 a1 a2 a3 w.1 w.2.1 w.2.2) (p2,p3,p4)
def jI (a0:Int) (a1:Int) (a2:Int) (a3:List aA) (p52:Int) (p53:List aC) (p54:List Int) (p55:MI) (x56:aA) (z50:Int × (List aA) × (List aC) × (List Int) × MI) (p58:Int) (p59:aE) (p60:MI):Option ((Int × aE × MI) ⊕ (aE × MI)) :=
 if decide (p58 < (z50.2.1.length:Int)) = true then
  (at? z50.2.1 p58).bind fun (x61:aA) =>
  if dO x61.No then
   if dO x61.No then
    if dO (fT x61.No 0 p55) then
     if p60.length < 1000000000000 then
      if (x61.No == x56.No) = true then
       (uQ x61).bind fun (r62:aE) =>
       some (.inl (IntKind.wrap .i64 (p58 + 1),r62,fL x61.No (fT x61.No 0 p55) p60))
      else
       some (.inl (IntKind.wrap .i64 (p58 + 1),p59,fL x61.No (fT x61.No 0 p55) p60))
     else none
    else none
   else none
  else none
 else
  some (.inr ((p59,p60)))
def oZ (a0:Int) (a1:Int) (a2:Int) (a3:List aA) (p52:Int) (p53:List aC) (p54:List Int) (p55:MI) (x56:aA) (z50:Int × (List aA) × (List aC) × (List Int) × MI) (p58:Int) (p59:aE) (p60:MI):Option (aE × MI) :=
 eX (fun (w:Int × aE × MI)=>jI a0 a1 a2 a3 p52 p53 p54 p55 x56 z50 w.1 w.2.1 w.2.2) (p58,p59,p60)
def sE (a0:Int) (a1:Int) (a2:Int) (a3:List aA) (p52:Int) (p53:List aC) (p54:List Int) (p66:Int) (p67:MI) (r65:aE × MI) (x56:aA) (x70:aA) (z50:Int × (List aA) × (List aC) × (List Int) × MI) (p73:List aM) (p74:List Int):Option (Unit) :=
 if dO x70.No then
  if dO 0 then
   if p67.length < 1000000000000 then
    some (())
   else none
  else none
 else none
def jB (a0:Int) (a1:Int) (a2:Int) (a3:List aA) (p52:Int) (p53:List aC) (p54:List Int) (r65:aE × MI) (x56:aA) (z50:Int × (List aA) × (List aC) × (List Int) × MI) (p66:Int) (p67:MI) (p68:List aM) (p69:List Int):Option ((Int × MI × (List aM) × (List Int)) ⊕ (MI × (List aM) × (List Int))) :=
 if decide (p66 < (z50.2.1.length:Int)) = true then
  (at? z50.2.1 p66).bind fun (x70:aA) =>
  (uQ x70).bind fun (r71:aE) =>
  if (!((r71.currency == r65.1.currency) && (r71.due == r65.1.due))) = true then
   some (.inl (IntKind.wrap .i64 (p66 + 1),p67,p68,p69))
  else
   (fF x70 x56.No (some r65.2)).bind fun (r72:Int) =>
   if decide (r72 > 0) = true then
    if (p68.length + 1) * 24 ≤ 140737488355328 then
     if (p69.length + 1) * 8 ≤ 140737488355328 then
      (sE a0 a1 a2 a3 p52 p53 p54 p66 p67 r65 x56 x70 z50 (p68 ++ [(aM.mk x70.From x70.To r72)]) (p69 ++ [x70.No])).bind fun (r75:Unit) =>
      some (.inl (IntKind.wrap .i64 (p66 + 1),fL x70.No 0 p67,(p68 ++ [(aM.mk x70.From x70.To r72)]),(p69 ++ [x70.No])))
     else none
    else none
   else
    (sE a0 a1 a2 a3 p52 p53 p54 p66 p67 r65 x56 x70 z50 p68 p69).bind fun (r76:Unit) =>
    some (.inl (IntKind.wrap .i64 (p66 + 1),fL x70.No 0 p67,p68,p69))
 else
  some (.inr ((p67,p68,p69)))
def sQ (a0:Int) (a1:Int) (a2:Int) (a3:List aA) (p52:Int) (p53:List aC) (p54:List Int) (r65:aE × MI) (x56:aA) (z50:Int × (List aA) × (List aC) × (List Int) × MI) (p66:Int) (p67:MI) (p68:List aM) (p69:List Int):Option (MI × (List aM) × (List Int)) :=
 eX (fun (w:Int × MI × (List aM) × (List Int))=>jB a0 a1 a2 a3 p52 p53 p54 r65 x56 z50 w.1 w.2.1 w.2.2.1 w.2.2.2) (p66,p67,p68,p69)
def iJ (a0:Int) (a1:Int) (a2:Int) (a3:List aA) (p52:Int) (p53:List aC) (p54:List Int) (r65:aE × MI) (r80:MI × (List aM) × (List Int)) (r81:(List Int) × (List Int) × Int) (z50:Int × (List aA) × (List aC) × (List Int) × MI) (p82:Int) (p83:MI):Option ((Int × MI) ⊕ (MI)) :=
 if decide (p82 < (r81.1.length:Int)) = true then
  (at? r81.1 p82).bind fun (x84:Int) =>
  if 0 ≤ p82 ∧ p82.toNat < r80.2.2.length then
   (r80.2.2[p82.toNat]?).bind fun (x85:Int) =>
   if dO x85 then
    if dO x84 then
     if p83.length < 1000000000000 then
      some (.inl (IntKind.wrap .i64 (p82 + 1),fL x85 x84 p83))
     else none
    else none
   else none
  else none
 else
  some (.inr (p83))
def rF (a0:Int) (a1:Int) (a2:Int) (a3:List aA) (p52:Int) (p53:List aC) (p54:List Int) (r65:aE × MI) (r80:MI × (List aM) × (List Int)) (r81:(List Int) × (List Int) × Int) (z50:Int × (List aA) × (List aC) × (List Int) × MI) (p82:Int) (p83:MI):Option (MI) :=
 eX (fun (w:Int × MI)=>iJ a0 a1 a2 a3 p52 p53 p54 r65 r80 r81 z50 w.1 w.2) (p82,p83)
def iI (a0:Int) (a1:Int) (a2:Int) (a3:List aA) (p52:Int) (p53:List aC) (p54:List Int) (r65:aE × MI) (r87:MI) (z50:Int × (List aA) × (List aC) × (List Int) × MI) (p88:Int) (p89:List aC):Option ((Int × (List aC)) ⊕ ((List aC))) :=
 if decide (p88 < (z50.2.1.length:Int)) = true then
  (at? z50.2.1 p88).bind fun (x90:aA) =>
  if dO x90.No then
   if dO x90.No then
    if decide ((IntKind.wrap .i64 ((R9 x90.No 0 (some r65.2)) - (fT x90.No 0 r87))) > 0) = true then
     if (p89.length + 1) * 32 ≤ 140737488355328 then
      some (.inl (IntKind.wrap .i64 (p88 + 1),p89 ++ [(aC.mk 5 x90.Room x90.No (IntKind.wrap .i64 ((R9 x90.No 0 (some r65.2)) - (fT x90.No 0 r87))))]))
     else none
    else
     some (.inl (IntKind.wrap .i64 (p88 + 1),p89))
   else none
  else none
 else
  some (.inr (p89))
def rC (a0:Int) (a1:Int) (a2:Int) (a3:List aA) (p52:Int) (p53:List aC) (p54:List Int) (r65:aE × MI) (r87:MI) (z50:Int × (List aA) × (List aC) × (List Int) × MI) (p88:Int) (p89:List aC):Option ((List aC)) :=
 eX (fun (w:Int × (List aC))=>iI a0 a1 a2 a3 p52 p53 p54 r65 r87 z50 w.1 w.2) (p88,p89)
def gO (a0:Int) (a1:Int) (a2:Int) (a3:List aA) (z50:Int × (List aA) × (List aC) × (List Int) × MI) (p52:Int) (p53:List aC) (p54:List Int) (p55:MI):Option ((Int × (List aC) × (List Int) × MI) ⊕ ((List aC) × (List Int) × MI)) :=
 if decide (p52 < (a3.length:Int)) = true then
  (at? a3 p52).bind fun (x56:aA) =>
  if o0 a3.length 0 p52 then
   (kB a0 a1 x56).bind fun (r57:Int) =>
   if (r57 != 0) = true then
    if (p53.length + 0) * 32 ≤ 140737488355328 then
     if (p54.length + 1) * 8 ≤ 140737488355328 then
      some (.inl (IntKind.wrap .i64 (p52 + 1),p53 ++ [],p54 ++ [1],p55))
     else none
    else none
   else
    if (x56.Kind == 4) = true then
     if (p53.length + 0) * 32 ≤ 140737488355328 then
      if (p54.length + 1) * 8 ≤ 140737488355328 then
       some (.inl (IntKind.wrap .i64 (p52 + 1),p53 ++ [],p54 ++ [7],p55))
      else none
     else none
    else
     if (x56.Kind == 5) = true then
      if dO x56.No then
       if ((fT x56.No 0 p55) == 0) = true then
        if (p53.length + 0) * 32 ≤ 140737488355328 then
         if (p54.length + 1) * 8 ≤ 140737488355328 then
          some (.inl (IntKind.wrap .i64 (p52 + 1),p53 ++ [],p54 ++ [4],p55))
         else none
        else none
       else
        (oZ a0 a1 a2 a3 p52 p53 p54 p55 x56 z50 0 (aE.mk 0 0) []).bind fun (r65:aE × MI) =>
        (sQ a0 a1 a2 a3 p52 p53 p54 r65 x56 z50 0 p55 [] []).bind fun (r80:MI × (List aM) × (List Int)) =>
        (iK a0 r80.2.1).bind fun (r81:(List Int) × (List Int) × Int) =>
        (rF a0 a1 a2 a3 p52 p53 p54 r65 r80 r81 z50 0 r80.1).bind fun (r87:MI) =>
        (rC a0 a1 a2 a3 p52 p53 p54 r65 r87 z50 0 []).bind fun (r92:(List aC)) =>
        if (p53.length + r92.length) * 32 ≤ 140737488355328 then
         if (p54.length + 1) * 8 ≤ 140737488355328 then
          some (.inl (IntKind.wrap .i64 (p52 + 1),p53 ++ r92,p54 ++ [0],r87))
         else none
        else none
      else none
     else
      if (p53.length + 0) * 32 ≤ 140737488355328 then
       if (p54.length + 1) * 8 ≤ 140737488355328 then
        some (.inl (IntKind.wrap .i64 (p52 + 1),p53 ++ [],p54 ++ [16],p55))
       else none
      else none
  else none
 else
  some (.inr ((p53,p54,p55)))
def lO (a0:Int) (a1:Int) (a2:Int) (a3:List aA) (z50:Int × (List aA) × (List aC) × (List Int) × MI) (p52:Int) (p53:List aC) (p54:List Int) (p55:MI):Option ((List aC) × (List Int) × MI) :=
 eX (fun (w:Int × (List aC) × (List Int) × MI)=>gO a0 a1 a2 a3 z50 w.1 w.2.1 w.2.2.1 w.2.2.2) (p52,p53,p54,p55)
def iV (a0:Int) (a1:Int) (a2:Int) (a3:List aA):Option ((List aC) × (List Int)) :=
 (pY a0 a1 a2 a3).bind fun (r1:Bool) =>
 if (!(r1)) = true then
  some ([],[])
 else
  (qB a0 a1 a2 a3 0 [] []).bind fun (r49:(Int × (List aA) × (List aC) × (List Int) × MI) ⊕ ((List aC) × (List Int)))=>Sum.elim (fun z50 =>
  (lO a0 a1 a2 a3 z50 z50.1 z50.2.2.1 z50.2.2.2.1 z50.2.2.2.2).bind fun (r96:(List aC) × (List Int) × MI) =>
   some (r96.1,r96.2.1)) (fun z51 =>
  some (z51.1,z51.2)) r49
def dA (a0:List aC) (a1:List aC) (p1:Int):Option ((Int) ⊕ (Unit ⊕ Unit)) :=
 if decide (p1 < (a0.length:Int)) = true then
  (at? a0 p1).bind fun (x2:aC) =>
  (at? a1 p1).bind fun (x3:aC) =>
  if (!((x2.Kind == x3.Kind) && ((x2.Room == x3.Room) && ((x2.No == x3.No) && (x2.Sum == x3.Sum))))) = true then
   some (.inr (.inr (())))
  else
   some (.inl (IntKind.wrap .i64 (p1 + 1)))
 else
  some (.inr (.inl ()))
def jP (a0:List aC) (a1:List aC) (p1:Int):Option (Unit ⊕ Unit) :=
 eX (fun (w:Int)=>dA a0 a1 w) p1
def bV (a0:List aC) (a1:List aC):Option (Bool) :=
 if ((a0.length:Int) != (a1.length:Int)) = true then
  some false
 else
  (jP a0 a1 0).bind fun (r4:Unit ⊕ Unit)=>Sum.elim (fun z5 =>
  some true) (fun z6 =>
  some false) r4
def oD (a0:Int) (a1:Int) (a2:Int) (r96:(List aC) × (List Int) × MI) (z50:Int × (List aA) × (List aC) × (List Int) × MI) (p97:Int) (p98:List aC):Option ((Int × (List aC)) ⊕ ((List aC))) :=
 if decide (p97 < (z50.2.1.length:Int)) = true then
  (at? z50.2.1 p97).bind fun (x99:aA) =>
  if dO x99.No then
   if decide ((fT x99.No 0 r96.2.2) > 0) = true then
    if (p98.length + 1) * 32 ≤ 140737488355328 then
     some (.inl (IntKind.wrap .i64 (p97 + 1),p98 ++ [(aC.mk 4 x99.Room x99.No (fT x99.No 0 r96.2.2))]))
    else none
   else
    some (.inl (IntKind.wrap .i64 (p97 + 1),p98))
  else none
 else
  some (.inr (p98))
def pK (a0:Int) (a1:Int) (a2:Int) (r96:(List aC) × (List Int) × MI) (z50:Int × (List aA) × (List aC) × (List Int) × MI) (p97:Int) (p98:List aC):Option ((List aC)) :=
 eX (fun (w:Int × (List aC))=>oD a0 a1 a2 r96 z50 w.1 w.2) (p97,p98)
def pH (a0:Int) (a1:Int) (a2:Int) (r96:(List aC) × (List Int) × MI) (z50:Int × (List aA) × (List aC) × (List Int) × MI):Option ((List aC)) :=
 (pK a0 a1 a2 r96 z50 0 []).bind fun (r101:(List aC)) =>
 some (r101)
def oB (a0:Int) (a1:Int) (a2:Int):Option ((Unit) ⊕ (Unit)) :=
 if decide (0 < 0) = true then
  none
 else
  some (.inr (()))
def mY (a0:Int) (a1:Int) (a2:Int):Option (Unit) :=
 eX (fun (w:Unit)=>oB a0 a1 a2) ()
def nC (a0:Int) (a1:Int) (a2:Int):Option (Unit) :=
 (mY a0 a1 a2).bind fun (r104:Unit) =>
 some (())
def fG (a0:Int) (a1:Int) (a2:Int) (a3:List aA):Option ((List aC)) :=
 (pY a0 a1 a2 a3).bind fun (r1:Bool) =>
 if (!(r1)) = true then
  some []
 else
  (qB a0 a1 a2 a3 0 [] []).bind fun (r49:(Int × (List aA) × (List aC) × (List Int) × MI) ⊕ ((List aC) × (List Int)))=>Sum.elim (fun z50 =>
  (lO a0 a1 a2 a3 z50 z50.1 z50.2.2.1 z50.2.2.2.1 z50.2.2.2.2).bind fun (r96:(List aC) × (List Int) × MI) =>
   (pH a0 a1 a2 r96 z50).bind fun (r103:(List aC)) =>
   some r103) (fun z51 =>
  (nC a0 a1 a2).bind fun (r105:Unit) =>
   some []) r49
def iQ:Option (Bool) :=
 (b9 9 0).bind fun (r1:(List aA)) =>
 (iV 3 1 5 r1).bind fun (r2:(List aC) × (List Int)) =>
 (b9 9 0).bind fun (r3:(List aA)) =>
 if (r3.length + 1) * 72 ≤ 140737488355328 then
  (iV 3 1 5 (r3 ++ [(aA.mk 5 0 6 2 0 0 0 0 0)])).bind fun (r4:(List aC) × (List Int)) =>
  (b9 9 2).bind fun (r5:(List aA)) =>
  (iV 3 1 5 r5).bind fun (r6:(List aC) × (List Int)) =>
  (b9 4 0).bind fun (r7:(List aA)) =>
  (iV 3 1 5 r7).bind fun (r8:(List aC) × (List Int)) =>
  if ((r2.2.length:Int) != 8) = true then
   some false
  else
   (bV r2.1 [(aC.mk 4 0 1 7),(aC.mk 4 0 2 7),(aC.mk 4 0 3 7)]).bind fun (r9:Bool) =>
   if (!(r9)) = true then
    some false
   else
    if (0 + 3) * 32 ≤ 140737488355328 then
     if ((([]:List aC) ++ [(aC.mk 4 0 1 7),(aC.mk 4 0 2 7),(aC.mk 4 0 3 7)]).length + 3) * 32 ≤ 140737488355328 then
      (bV r4.1 ((([]:List aC) ++ [(aC.mk 4 0 1 7),(aC.mk 4 0 2 7),(aC.mk 4 0 3 7)]) ++ [(aC.mk 5 0 1 7),(aC.mk 5 0 2 7),(aC.mk 5 0 3 7)])).bind fun (r10:Bool) =>
      if (!(r10)) = true then
       some false
      else
       if ((r6.1.length:Int) != 0) = true then
        some false
       else
        if ((r8.1.length:Int) != 0) = true then
         some false
        else
         (b9 9 0).bind fun (r11:(List aA)) =>
         (fG 3 1 5 r11).bind fun (r12:(List aC)) =>
         (bV r12 [(aC.mk 4 0 1 7),(aC.mk 4 0 2 7),(aC.mk 4 0 3 7)]).bind fun (r13:Bool) =>
         if r13 = true then
          (fG 3 1 5 (r3 ++ [(aA.mk 5 0 6 2 0 0 0 0 0)])).bind fun (r14:(List aC)) =>
          if ((r14.length:Int) == 0) = true then
           (b9 9 2).bind fun (r15:(List aA)) =>
           (lT 3 1 5 r15).bind fun (r16:(List aA)) =>
           if ((r16.length:Int) == 2) = true then
            (kB 3 1 (aA.mk 0 0 0 0 0 0 0 0 0)).bind fun (r17:Int) =>
            some (r17 == 1)
           else
            some false
          else
           some false
         else
          some false
     else none
    else none
 else none
def jW (a0:List aA):Option (Bool) :=
 some (decide ((a0.length:Int) ≤ 100))
def bN (a0:List aA) (a1:List Int) (p1:Int):Option ((Int) ⊕ (Unit ⊕ Int)) :=
 if decide (p1 < (a0.length:Int)) = true then
  if decide (p1 < (a1.length:Int)) = true then
   (at? a0 p1).bind fun (x2:aA) =>
   if (x2.Kind == 4) = true then
    (at? a1 p1).bind fun (x3:Int) =>
    if (x3 == 0) = true then
     some (.inr (.inr (p1)))
    else
     some (.inl (IntKind.wrap .i64 (p1 + 1)))
   else
    some (.inl (IntKind.wrap .i64 (p1 + 1)))
  else
   some (.inr (.inl ()))
 else
  some (.inr (.inl ()))
def gZ (a0:List aA) (a1:List Int) (p1:Int):Option (Unit ⊕ Int) :=
 eX (fun (w:Int)=>bN a0 a1 w) p1
def dP (a0:List aA) (a1:List Int):Option (Int) :=
 (gZ a0 a1 0).bind fun (r5:Unit ⊕ Int)=>Sum.elim (fun z6 =>
 some (a0.length:Int)) (fun z7 =>
 some z7) r5
def cG (a0:Int) (a1:Int) (a2:Int) (a3:List aA) (a4:List Int) (a5:List Int) (r1:Bool) (r3:(List aC) × (List Int)) (r4:Int) (p5:Int) (p6:List aA):Option ((Int × (List aA)) ⊕ ((List aA))) :=
 if decide (p5 < (a5.length:Int)) = true then
  if decide (r4 > 0) = true then
   (at? a5 p5).bind fun (x7:Int) =>
   if r4 = 0 then
    none
   else
    (at? a3 ((IntKind.wrap .i64 x7).tmod r4)).bind fun (x8:aA) =>
    if (x8.Kind != 4) = true then
     if (p6.length + 1) * 72 ≤ 140737488355328 then
      some (.inl (IntKind.wrap .i64 (p5 + 1),p6 ++ [x8]))
     else none
    else
     some (.inl (IntKind.wrap .i64 (p5 + 1),p6))
  else
   some (.inr (p6))
 else
  some (.inr (p6))
def eQ (a0:Int) (a1:Int) (a2:Int) (a3:List aA) (a4:List Int) (a5:List Int) (r1:Bool) (r3:(List aC) × (List Int)) (r4:Int) (p5:Int) (p6:List aA):Option ((List aA)) :=
 eX (fun (w:Int × (List aA))=>cG a0 a1 a2 a3 a4 a5 r1 r3 r4 w.1 w.2) (p5,p6)
def cJ (a0:Int) (a1:Int) (a2:Int) (a3:List aA) (a4:List Int) (r1:Bool) (r3:(List aC) × (List Int)) (r4:Int) (p11:Int) (p12:List aA):Option ((Int × (List aA)) ⊕ ((List aA))) :=
 if decide ((IntKind.wrap .i64 (p11 + 1)) < (a4.length:Int)) = true then
  if decide (r4 > 0) = true then
   (at? a4 p11).bind fun (x13:Int) =>
   if (p12.length:Int) = 0 then
    none
   else
    (at? a4 (IntKind.wrap .i64 (p11 + 1))).bind fun (x14:Int) =>
    if (p12.length:Int) = 0 then
     none
    else
     if 0 ≤ ((IntKind.wrap .i64 x13).tmod (p12.length:Int)) ∧ ((IntKind.wrap .i64 x13).tmod (p12.length:Int)).toNat < p12.length then
      (p12[((IntKind.wrap .i64 x13).tmod (p12.length:Int)).toNat]?).bind fun (x15:aA) =>
      if 0 ≤ ((IntKind.wrap .i64 x14).tmod (p12.length:Int)) ∧ ((IntKind.wrap .i64 x14).tmod (p12.length:Int)).toNat < p12.length then
       (p12[((IntKind.wrap .i64 x14).tmod (p12.length:Int)).toNat]?).bind fun (x16:aA) =>
       if 0 ≤ ((IntKind.wrap .i64 x13).tmod (p12.length:Int)) ∧ ((IntKind.wrap .i64 x13).tmod (p12.length:Int)).toNat < p12.length then
        (p12[((IntKind.wrap .i64 x13).tmod (p12.length:Int)).toNat]?).bind fun (x17:aA) =>
        if 0 ≤ ((IntKind.wrap .i64 x14).tmod (p12.length:Int)) ∧ ((IntKind.wrap .i64 x14).tmod (p12.length:Int)).toNat < (p12.set (((IntKind.wrap .i64 x13).tmod (p12.length:Int)).toNat) x16).length then
         ((p12.set (((IntKind.wrap .i64 x13).tmod (p12.length:Int)).toNat) x16)[((IntKind.wrap .i64 x14).tmod (p12.length:Int)).toNat]?).bind fun (x18:aA) =>
         some (.inl (IntKind.wrap .i64 (p11 + 1),(p12.set (((IntKind.wrap .i64 x13).tmod (p12.length:Int)).toNat) x16).set (((IntKind.wrap .i64 x14).tmod (p12.length:Int)).toNat) x15))
        else none
       else none
      else none
     else none
  else
   some (.inr (p12))
 else
  some (.inr (p12))
def eV (a0:Int) (a1:Int) (a2:Int) (a3:List aA) (a4:List Int) (r1:Bool) (r3:(List aC) × (List Int)) (r4:Int) (p11:Int) (p12:List aA):Option ((List aA)) :=
 eX (fun (w:Int × (List aA))=>cJ a0 a1 a2 a3 a4 r1 r3 r4 w.1 w.2) (p11,p12)
def cH (a0:Int) (a1:Int) (a2:Int) (a3:List aA) (r1:Bool) (r3:(List aC) × (List Int)) (r4:Int) (p21:Int) (p22:List aA):Option ((Int × (List aA)) ⊕ ((List aA))) :=
 if decide (p21 < (p22.length:Int)) = true then
  if 0 ≤ p21 ∧ p21.toNat < p22.length then
   (p22[p21.toNat]?).bind fun (x23:aA) =>
   if (x23.Kind == 4) = true then
    if 0 ≤ p21 ∧ p21.toNat < p22.length then
     (p22[p21.toNat]?).bind fun (x24:aA) =>
     some (.inl (IntKind.wrap .i64 (p21 + 1),p22.set p21.toNat (aA.mk (-1) 0 0 0 0 0 0 0 0)))
    else none
   else
    some (.inl (IntKind.wrap .i64 (p21 + 1),p22))
  else none
 else
  some (.inr (p22))
def eU (a0:Int) (a1:Int) (a2:Int) (a3:List aA) (r1:Bool) (r3:(List aC) × (List Int)) (r4:Int) (p21:Int) (p22:List aA):Option ((List aA)) :=
 eX (fun (w:Int × (List aA))=>cH a0 a1 a2 a3 r1 r3 r4 w.1 w.2) (p21,p22)
def iS (a0:Int) (a1:Int) (a2:Int) (a3:List aA) (a4:List Int) (a5:List Int):Option (Bool) :=
 (iQ).bind fun (r1:Bool) =>
 (jW a3).bind fun (r2:Bool) =>
 if (!(r2)) = true then
  some r1
 else
  if decide ((a4.length:Int) > 200) = true then
   some r1
  else
   if decide ((a5.length:Int) > 50) = true then
    some r1
   else
    (iV a0 a1 a2 a3).bind fun (r3:(List aC) × (List Int)) =>
    (dP a3 r3.2).bind fun (r4:Int) =>
    if o0 a3.length 0 r4 then
     if (0 + (nO a3 0 r4).length) * 72 ≤ 140737488355328 then
      (eQ a0 a1 a2 a3 a4 a5 r1 r3 r4 0 (([]:List aA) ++ (nO a3 0 r4))).bind fun (r10:(List aA)) =>
      (eV a0 a1 a2 a3 a4 r1 r3 r4 0 r10).bind fun (r20:(List aA)) =>
      (eU a0 a1 a2 a3 r1 r3 r4 0 r20).bind fun (r26:(List aA)) =>
      if (0 + r26.length) * 72 ≤ 140737488355328 then
       if o0 a3.length r4 (a3.length:Int) then
        if ((([]:List aA) ++ r26).length + (nO a3 r4 (a3.length:Int)).length) * 72 ≤ 140737488355328 then
         (iV a0 a1 a2 ((([]:List aA) ++ r26) ++ (nO a3 r4 (a3.length:Int)))).bind fun (r27:(List aC) × (List Int)) =>
         if r1 = true then
          (bV r3.1 r27.1).bind fun (r28:Bool) =>
          if r28 = true then
           (fG a0 a1 a2 a3).bind fun (r29:(List aC)) =>
           (fG a0 a1 a2 ((([]:List aA) ++ r26) ++ (nO a3 r4 (a3.length:Int)))).bind fun (r30:(List aC)) =>
           (bV r29 r30).bind fun (r31:Bool) =>
           some r31
          else
           some false
         else
          some false
        else none
       else none
      else none
     else none
    else none
end
end Go.Proofs.Ytiimibimkpimbaa
