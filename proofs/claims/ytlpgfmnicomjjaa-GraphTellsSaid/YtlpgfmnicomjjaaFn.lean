/- What the functions compute, as plain definitions. Printed by a program. -/
import Derived.Test.YtlpgfmnicomjjaaTab
set_option linter.unusedVariables false
set_option linter.unusedSimpArgs false
namespace Go.Proofs.Ytlpgfmnicomjjaa
open Vm
open Go.RowKit
noncomputable def mgraph_right_l1_s (a0:Int) (a1:List GArr2I) (p1:Int):Option ((Int) ⊕ (Unit ⊕ Unit)) :=
 if decide (p1 < (a1.length:Int)) = true then
  (at? a1 p1).bind fun (x2:GArr2I) =>
  if decide (x2.e0 < 0) = true then
   some (.inr (.inr (())))
  else
   if decide (x2.e0 ≥ a0) = true then
    some (.inr (.inr (())))
   else
    if decide (x2.e1 < 0) = true then
     some (.inr (.inr (())))
    else
     if decide (x2.e1 ≥ a0) = true then
      some (.inr (.inr (())))
     else
      some (.inl (IntKind.wrap .i64 (p1 + 1)))
 else
  some (.inr (.inl ()))
noncomputable def mgraph_right_l1 (a0:Int) (a1:List GArr2I) (p1:Int):Option (Unit ⊕ Unit) :=
 Iter (fun (w:Int)=>mgraph_right_l1_s a0 a1 w) p1
noncomputable def mgraph_right (a0:Int) (a1:List GArr2I):Option (Bool) :=
 if decide (a0 < 0) = true then
  some false
 else
  if decide (a0 > 300) = true then
   some false
  else
   if decide ((a1.length:Int) > 2000) = true then
    some false
   else
    (mgraph_right_l1 a0 a1 0).bind fun (r3:Unit ⊕ Unit)=>Sum.elim (fun z4 =>
    some true) (fun z5 =>
    some false) r3
noncomputable def mgraph_next (a0:Int) (a1:List GArr2I):Option ((List (List Int))):=if okE a0 (a1.map fun e=>(e.e0,e.e1)) = true then some (nextL a0.toNat (a1.map fun e=>(e.e0,e.e1))) else none
noncomputable def mslices_Index_int_int_l1_s (a0:List Int) (a1:Int) (p1:Int):Option ((Int) ⊕ (Unit ⊕ Int)) :=
 if decide (p1 < (a0.length:Int)) = true then
  (at? a0 p1).bind fun (x2:Int) =>
  if (a1 == x2) = true then
   some (.inr (.inr (p1)))
  else
   some (.inl (IntKind.wrap .i64 (p1 + 1)))
 else
  some (.inr (.inl ()))
noncomputable def mslices_Index_int_int_l1 (a0:List Int) (a1:Int) (p1:Int):Option (Unit ⊕ Int) :=
 Iter (fun (w:Int)=>mslices_Index_int_int_l1_s a0 a1 w) p1
noncomputable def mslices_Index_int_int (a0:List Int) (a1:Int):Option (Int) :=
 (mslices_Index_int_int_l1 a0 a1 0).bind fun (r4:Unit ⊕ Int)=>Sum.elim (fun z5 =>
 some (-1)) (fun z6 =>
 some z6) r4
noncomputable def mgraph_Order_l1_s (a0:Int) (p3:Int) (r2:(List (List Int))) (x5:List Int) (p6:Int) (p7:List Int):Option ((Int × (List Int)) ⊕ ((List Int))) :=
 if decide (p6 < (x5.length:Int)) = true then
  (at? x5 p6).bind fun (x8:Int) =>
  if 0 ≤ x8 ∧ x8.toNat < p7.length then
   (p7[x8.toNat]?).bind fun (x9:Int) =>
   if 0 ≤ x8 ∧ x8.toNat < p7.length then
    (p7[x8.toNat]?).bind fun (x10:Int) =>
    some (.inl (IntKind.wrap .i64 (p6 + 1),p7.set x8.toNat (IntKind.wrap .i64 (x9 + 1))))
   else none
  else none
 else
  some (.inr (p7))
noncomputable def mgraph_Order_l1 (a0:Int) (p3:Int) (r2:(List (List Int))) (x5:List Int) (p6:Int) (p7:List Int):Option ((List Int)) :=
 Iter (fun (w:Int × (List Int))=>mgraph_Order_l1_s a0 p3 r2 x5 w.1 w.2) (p6,p7)
noncomputable def mgraph_Order_l2_s (a0:Int) (r2:(List (List Int))) (p3:Int) (p4:List Int):Option ((Int × (List Int)) ⊕ ((List Int))) :=
 if decide (p3 < (r2.length:Int)) = true then
  (at? r2 p3).bind fun (x5:List Int) =>
  (mgraph_Order_l1 a0 p3 r2 x5 0 p4).bind fun (r12:(List Int)) =>
  some (.inl (IntKind.wrap .i64 (p3 + 1),r12))
 else
  some (.inr (p4))
noncomputable def mgraph_Order_l2 (a0:Int) (r2:(List (List Int))) (p3:Int) (p4:List Int):Option ((List Int)) :=
 Iter (fun (w:Int × (List Int))=>mgraph_Order_l2_s a0 r2 w.1 w.2) (p3,p4)
noncomputable def mgraph_Order_l3_s (a0:Int) (p16:List Int) (r17:Int) (r2:(List (List Int))) (x19:List Int) (p20:Int) (p21:List Int):Option ((Int × (List Int)) ⊕ ((List Int))) :=
 if decide (p20 < (x19.length:Int)) = true then
  (at? x19 p20).bind fun (x22:Int) =>
  if 0 ≤ x22 ∧ x22.toNat < p21.length then
   (p21[x22.toNat]?).bind fun (x23:Int) =>
   if 0 ≤ x22 ∧ x22.toNat < p21.length then
    (p21[x22.toNat]?).bind fun (x24:Int) =>
    some (.inl (IntKind.wrap .i64 (p20 + 1),p21.set x22.toNat (IntKind.wrap .i64 (x23 - 1))))
   else none
  else none
 else
  some (.inr (p21))
noncomputable def mgraph_Order_l3 (a0:Int) (p16:List Int) (r17:Int) (r2:(List (List Int))) (x19:List Int) (p20:Int) (p21:List Int):Option ((List Int)) :=
 Iter (fun (w:Int × (List Int))=>mgraph_Order_l3_s a0 p16 r17 r2 x19 w.1 w.2) (p20,p21)
noncomputable def mgraph_Order_l4_s (a0:Int) (r2:(List (List Int))) (p15:List Int) (p16:List Int):Option (((List Int) × (List Int)) ⊕ (((List Int)) ⊕ ((List Int)))) :=
 if decide ((p16.length:Int) < a0) = true then
  (mslices_Index_int_int p15 0).bind fun (r17:Int) =>
  if decide (r17 < 0) = true then
   some (.inr (.inr (p16)))
  else
   if 0 ≤ r17 ∧ r17.toNat < p15.length then
    (p15[r17.toNat]?).bind fun (x18:Int) =>
    if (p16.length + 1) * 8 ≤ 140737488355328 then
     (at? r2 r17).bind fun (x19:List Int) =>
     (mgraph_Order_l3 a0 p16 r17 r2 x19 0 (p15.set r17.toNat (-1))).bind fun (r26:(List Int)) =>
     some (.inl (r26,p16 ++ [r17]))
    else none
   else none
 else
  some (.inr (.inl p16))
noncomputable def mgraph_Order_l4 (a0:Int) (r2:(List (List Int))) (p15:List Int) (p16:List Int):Option (((List Int)) ⊕ ((List Int))) :=
 Iter (fun (w:(List Int) × (List Int))=>mgraph_Order_l4_s a0 r2 w.1 w.2) (p15,p16)
noncomputable def mgraph_Order (a0:Int) (a1:List GArr2I):Option ((List Int) × Bool) :=
 (mgraph_right a0 a1).bind fun (r1:Bool) =>
 if (!(r1)) = true then
  some ([],false)
 else
  (mgraph_next a0 a1).bind fun (r2:(List (List Int))) =>
  if 0 ≤ a0 ∧ a0 ≤ a0 ∧ 8 * a0 ≤ 281474976710656 ∧ a0 ≤ 9223372036854775807 then
   (mgraph_Order_l2 a0 r2 0 (List.replicate a0.toNat 0)).bind fun (r14:(List Int)) =>
   (mgraph_Order_l4 a0 r2 r14 []).bind fun (r29:((List Int)) ⊕ ((List Int)))=>Sum.elim (fun z30 =>
   some (z30,true)) (fun z31 =>
   some ([],false)) r29
  else none
noncomputable def mallongeref06_SameInts_l1_s (a0:List Int) (a1:List Int) (p1:Int):Option ((Int) ⊕ (Unit ⊕ Unit)) :=
 if decide (p1 < (a0.length:Int)) = true then
  (at? a0 p1).bind fun (x2:Int) =>
  (at? a1 p1).bind fun (x3:Int) =>
  if (x2 != x3) = true then
   some (.inr (.inr (())))
  else
   some (.inl (IntKind.wrap .i64 (p1 + 1)))
 else
  some (.inr (.inl ()))
noncomputable def mallongeref06_SameInts_l1 (a0:List Int) (a1:List Int) (p1:Int):Option (Unit ⊕ Unit) :=
 Iter (fun (w:Int)=>mallongeref06_SameInts_l1_s a0 a1 w) p1
noncomputable def mallongeref06_SameInts (a0:List Int) (a1:List Int):Option (Bool) :=
 if ((a0.length:Int) != (a1.length:Int)) = true then
  some false
 else
  (mallongeref06_SameInts_l1 a0 a1 0).bind fun (r4:Unit ⊕ Unit)=>Sum.elim (fun z5 =>
  some true) (fun z6 =>
  some false) r4
noncomputable def mgraph_steps_l1_s (a0:List (List Int)) (a1:Int) (x4:Int) (x5:List Int) (p6:Int) (p7:List Int) (p8:List Int):Option ((Int × (List Int) × (List Int)) ⊕ ((List Int) × (List Int))) :=
 if decide (p6 < (x5.length:Int)) = true then
  (at? x5 p6).bind fun (x9:Int) =>
  if decide (x9 > a1) = true then
   if 0 ≤ x9 ∧ x9.toNat < p8.length then
    (p8[x9.toNat]?).bind fun (x10:Int) =>
    if (x10 == 0) = true then
     if 0 ≤ x4 ∧ x4.toNat < p8.length then
      (p8[x4.toNat]?).bind fun (x11:Int) =>
      if 0 ≤ x9 ∧ x9.toNat < p8.length then
       (p8[x9.toNat]?).bind fun (x12:Int) =>
       if (p7.length + 1) * 8 ≤ 140737488355328 then
        some (.inl (IntKind.wrap .i64 (p6 + 1),p7 ++ [x9],p8.set x9.toNat (IntKind.wrap .i64 (x11 + 1))))
       else none
      else none
     else none
    else
     some (.inl (IntKind.wrap .i64 (p6 + 1),p7,p8))
   else none
  else
   some (.inl (IntKind.wrap .i64 (p6 + 1),p7,p8))
 else
  some (.inr ((p7,p8)))
noncomputable def mgraph_steps_l1 (a0:List (List Int)) (a1:Int) (x4:Int) (x5:List Int) (p6:Int) (p7:List Int) (p8:List Int):Option ((List Int) × (List Int)) :=
 Iter (fun (w:Int × (List Int) × (List Int))=>mgraph_steps_l1_s a0 a1 x4 x5 w.1 w.2.1 w.2.2) (p6,p7,p8)
noncomputable def mgraph_steps_l2_s (a0:List (List Int)) (a1:Int) (p2:List Int) (p3:List Int):Option (((List Int) × (List Int)) ⊕ ((List Int))) :=
 if decide ((p2.length:Int) > 0) = true then
  if 0 ≤ 0 ∧ 0 < p2.length then
   (p2[0]?).bind fun (x4:Int) =>
   if sliceOk p2.length 1 (p2.length:Int) then
    (at? a0 x4).bind fun (x5:List Int) =>
    (mgraph_steps_l1 a0 a1 x4 x5 0 (sliceL p2 1 (p2.length:Int)) p3).bind fun (r15:(List Int) × (List Int)) =>
    some (.inl (r15.1,r15.2))
   else none
  else none
 else
  some (.inr (p3))
noncomputable def mgraph_steps_l2 (a0:List (List Int)) (a1:Int) (p2:List Int) (p3:List Int):Option ((List Int)) :=
 Iter (fun (w:(List Int) × (List Int))=>mgraph_steps_l2_s a0 a1 w.1 w.2) (p2,p3)
noncomputable def mgraph_steps (a0:List (List Int)) (a1:Int) (a2:List Int):Option ((List Int)) :=
 if 0 ≤ a1 ∧ a1.toNat < (List.replicate a2.length (0:Int)).length then
  ((List.replicate a2.length (0:Int))[a1.toNat]?).bind fun (x1:Int) =>
  (mgraph_steps_l2 a0 a1 [a1] ((List.replicate a2.length (0:Int)).set a1.toNat 1)).bind fun (r17:(List Int)) =>
  some r17
 else none
noncomputable def mgraph_Cycle_l1_s (a0:Int) (a1:List GArr2I) (p2:Int) (p3:List GArr2I):Option ((Int × (List GArr2I)) ⊕ ((List GArr2I))) :=
 if decide (p2 < (a1.length:Int)) = true then
  (at? a1 p2).bind fun (x4:GArr2I) =>
  if 0 ≤ p2 ∧ p2.toNat < p3.length then
   (p3[p2.toNat]?).bind fun (x5:GArr2I) =>
   some (.inl (IntKind.wrap .i64 (p2 + 1),p3.set p2.toNat (GArr2I.mk x4.e1 x4.e0)))
  else none
 else
  some (.inr (p3))
noncomputable def mgraph_Cycle_l1 (a0:Int) (a1:List GArr2I) (p2:Int) (p3:List GArr2I):Option ((List GArr2I)) :=
 Iter (fun (w:Int × (List GArr2I))=>mgraph_Cycle_l1_s a0 a1 w.1 w.2) (p2,p3)
noncomputable def mgraph_Cycle_l2_s (a0:Int) (p10:Int) (r12:(List Int)) (r8:(List (List Int))) (r9:(List (List Int))) (x13:List Int) (p14:Int) (p15:Int):Option ((Int × Int) ⊕ (Int)) :=
 if decide (p15 < (x13.length:Int)) = true then
  (at? x13 p15).bind fun (x16:Int) =>
  if decide (x16 ≥ p10) = true then
   if 0 ≤ x16 ∧ x16.toNat < r12.length then
    (r12[x16.toNat]?).bind fun (x17:Int) =>
    if decide (x17 > 0) = true then
     if (p14 == 0) = true then
      if 0 ≤ x16 ∧ x16.toNat < r12.length then
       (r12[x16.toNat]?).bind fun (x19:Int) =>
       some (.inl (x19,IntKind.wrap .i64 (p15 + 1)))
      else none
     else
      if 0 ≤ x16 ∧ x16.toNat < r12.length then
       (r12[x16.toNat]?).bind fun (x18:Int) =>
       if decide (x18 < p14) = true then
        if 0 ≤ x16 ∧ x16.toNat < r12.length then
         (r12[x16.toNat]?).bind fun (x20:Int) =>
         some (.inl (x20,IntKind.wrap .i64 (p15 + 1)))
        else none
       else
        some (.inl (p14,IntKind.wrap .i64 (p15 + 1)))
      else none
    else
     some (.inl (p14,IntKind.wrap .i64 (p15 + 1)))
   else none
  else
   some (.inl (p14,IntKind.wrap .i64 (p15 + 1)))
 else
  some (.inr (p14))
noncomputable def mgraph_Cycle_l2 (a0:Int) (p10:Int) (r12:(List Int)) (r8:(List (List Int))) (r9:(List (List Int))) (x13:List Int) (p14:Int) (p15:Int):Option (Int) :=
 Iter (fun (w:Int × Int)=>mgraph_Cycle_l2_s a0 p10 r12 r8 r9 x13 w.1 w.2) (p14,p15)
noncomputable def mgraph_Cycle_l3_s (a0:Int) (p23:Int) (p25:Int) (p26:List Int) (p27:Int) (p28:List Int) (r8:(List (List Int))) (r9:(List (List Int))) (x30:List Int) (p31:Int):Option ((Int) ⊕ ((List Int))) :=
 if decide (p31 < (x30.length:Int)) = true then
  (at? x30 p31).bind fun (x32:Int) =>
  if decide (x32 > p23) = true then
   if 0 ≤ x32 ∧ x32.toNat < p26.length then
    (p26[x32.toNat]?).bind fun (x33:Int) =>
    if (x33 == p27) = true then
     if (p28.length + 1) * 8 ≤ 140737488355328 then
      some (.inr (p28 ++ [x32]))
     else none
    else
     some (.inl (IntKind.wrap .i64 (p31 + 1)))
   else none
  else
   some (.inl (IntKind.wrap .i64 (p31 + 1)))
 else
  some (.inr (p28))
noncomputable def mgraph_Cycle_l3 (a0:Int) (p23:Int) (p25:Int) (p26:List Int) (p27:Int) (p28:List Int) (r8:(List (List Int))) (r9:(List (List Int))) (x30:List Int) (p31:Int):Option ((List Int)) :=
 Iter (fun (w:Int)=>mgraph_Cycle_l3_s a0 p23 p25 p26 p27 p28 r8 r9 x30 w) p31
noncomputable def mgraph_Cycle_l4_s (a0:Int) (p23:Int) (p25:Int) (p26:List Int) (r8:(List (List Int))) (r9:(List (List Int))) (p27:Int) (p28:List Int):Option ((Int × (List Int)) ⊕ ((List Int))) :=
 if decide (p27 > 1) = true then
  if 0 ≤ (IntKind.wrap .i64 ((p28.length:Int) - 1)) ∧ (IntKind.wrap .i64 ((p28.length:Int) - 1)).toNat < p28.length then
   (p28[(IntKind.wrap .i64 ((p28.length:Int) - 1)).toNat]?).bind fun (x29:Int) =>
   (at? r8 x29).bind fun (x30:List Int) =>
   (mgraph_Cycle_l3 a0 p23 p25 p26 p27 p28 r8 r9 x30 0).bind fun (r35:(List Int)) =>
   some (.inl (IntKind.wrap .i64 (p27 - 1),r35))
  else none
 else
  some (.inr (p28))
noncomputable def mgraph_Cycle_l4 (a0:Int) (p23:Int) (p25:Int) (p26:List Int) (r8:(List (List Int))) (r9:(List (List Int))) (p27:Int) (p28:List Int):Option ((List Int)) :=
 Iter (fun (w:Int × (List Int))=>mgraph_Cycle_l4_s a0 p23 p25 p26 r8 r9 w.1 w.2) (p27,p28)
noncomputable def mgraph_Cycle_j5 (a0:Int) (r8:(List (List Int))) (r9:(List (List Int))) (p23:Int) (p24:Int) (p25:Int) (p26:List Int):Option ((List Int)) :=
 (mgraph_Cycle_l4 a0 p23 p25 p26 r8 r9 p24 [p23]).bind fun (r37:(List Int)) =>
 some (r37)
noncomputable def mgraph_Cycle_l6_s (a0:Int) (r8:(List (List Int))) (r9:(List (List Int))) (p10:Int) (p11:List Int):Option ((Int × (List Int)) ⊕ ((Int × (List Int) × (List Int)) ⊕ Unit)) :=
 if decide (p10 < a0) = true then
  (mgraph_steps r9 p10 p11).bind fun (r12:(List Int)) =>
  (at? r8 p10).bind fun (x13:List Int) =>
  (mgraph_Cycle_l2 a0 p10 r12 r8 r9 x13 0 0).bind fun (r22:Int) =>
  if (r22 == 0) = true then
   some (.inl (IntKind.wrap .i64 (p10 + 1),r12))
  else
   (mgraph_Cycle_j5 a0 r8 r9 p10 r22 p10 r12).bind fun (r39:(List Int)) =>
   some (.inr (.inl (IntKind.wrap .i64 (p10 + 1),r12,r39)))
 else
  some (.inr (.inr (())))
noncomputable def mgraph_Cycle_l6 (a0:Int) (r8:(List (List Int))) (r9:(List (List Int))) (p10:Int) (p11:List Int):Option ((Int × (List Int) × (List Int)) ⊕ Unit) :=
 Iter (fun (w:Int × (List Int))=>mgraph_Cycle_l6_s a0 r8 r9 w.1 w.2) (p10,p11)
noncomputable def mgraph_Cycle_l7_s (a0:Int) (p46:Int) (p48:List Int) (r49:(List Int)) (r8:(List (List Int))) (r9:(List (List Int))) (x50:List Int) (p51:Int) (p52:Int):Option ((Int × Int) ⊕ (Int)) :=
 if decide (p52 < (x50.length:Int)) = true then
  (at? x50 p52).bind fun (x53:Int) =>
  if decide (x53 ≥ p46) = true then
   if 0 ≤ x53 ∧ x53.toNat < r49.length then
    (r49[x53.toNat]?).bind fun (x54:Int) =>
    if decide (x54 > 0) = true then
     if (p51 == 0) = true then
      if 0 ≤ x53 ∧ x53.toNat < r49.length then
       (r49[x53.toNat]?).bind fun (x56:Int) =>
       some (.inl (x56,IntKind.wrap .i64 (p52 + 1)))
      else none
     else
      if 0 ≤ x53 ∧ x53.toNat < r49.length then
       (r49[x53.toNat]?).bind fun (x55:Int) =>
       if decide (x55 < p51) = true then
        if 0 ≤ x53 ∧ x53.toNat < r49.length then
         (r49[x53.toNat]?).bind fun (x57:Int) =>
         some (.inl (x57,IntKind.wrap .i64 (p52 + 1)))
        else none
       else
        some (.inl (p51,IntKind.wrap .i64 (p52 + 1)))
      else none
    else
     some (.inl (p51,IntKind.wrap .i64 (p52 + 1)))
   else none
  else
   some (.inl (p51,IntKind.wrap .i64 (p52 + 1)))
 else
  some (.inr (p51))
noncomputable def mgraph_Cycle_l7 (a0:Int) (p46:Int) (p48:List Int) (r49:(List Int)) (r8:(List (List Int))) (r9:(List (List Int))) (x50:List Int) (p51:Int) (p52:Int):Option (Int) :=
 Iter (fun (w:Int × Int)=>mgraph_Cycle_l7_s a0 p46 p48 r49 r8 r9 x50 w.1 w.2) (p51,p52)
noncomputable def mgraph_Cycle_l8_s (a0:Int) (r8:(List (List Int))) (r9:(List (List Int))) (p46:Int) (p47:List Int) (p48:List Int):Option ((Int × (List Int) × (List Int)) ⊕ ((List Int))) :=
 if decide (p46 < a0) = true then
  (mgraph_steps r9 p46 p47).bind fun (r49:(List Int)) =>
  (at? r8 p46).bind fun (x50:List Int) =>
  (mgraph_Cycle_l7 a0 p46 p48 r49 r8 r9 x50 0 0).bind fun (r59:Int) =>
  if (r59 == 0) = true then
   some (.inl (IntKind.wrap .i64 (p46 + 1),r49,p48))
  else
   if 0 < p48.length then
    if decide (r59 ≥ (p48.length:Int)) = true then
     some (.inl (IntKind.wrap .i64 (p46 + 1),r49,p48))
    else
     (mgraph_Cycle_j5 a0 r8 r9 p46 r59 p46 r49).bind fun (r60:(List Int)) =>
     some (.inl (IntKind.wrap .i64 (p46 + 1),r49,r60))
   else none
 else
  some (.inr (p48))
noncomputable def mgraph_Cycle_l8 (a0:Int) (r8:(List (List Int))) (r9:(List (List Int))) (p46:Int) (p47:List Int) (p48:List Int):Option ((List Int)) :=
 Iter (fun (w:Int × (List Int) × (List Int))=>mgraph_Cycle_l8_s a0 r8 r9 w.1 w.2.1 w.2.2) (p46,p47,p48)
noncomputable def mgraph_Cycle (a0:Int) (a1:List GArr2I):Option ((List Int)) :=
 (mgraph_right a0 a1).bind fun (r1:Bool) =>
 if (!(r1)) = true then
  some []
 else
  if 0 ≤ (a1.length:Int) ∧ (a1.length:Int) ≤ (a1.length:Int) ∧ 16 * (a1.length:Int) ≤ 281474976710656 ∧ (a1.length:Int) ≤ 9223372036854775807 then
   (mgraph_Cycle_l1 a0 a1 0 (List.replicate ((a1.length:Int).toNat) (GArr2I.mk 0 0))).bind fun (r7:(List GArr2I)) =>
   (mgraph_next a0 a1).bind fun (r8:(List (List Int))) =>
   (mgraph_next a0 r7).bind fun (r9:(List (List Int))) =>
   if 0 ≤ a0 ∧ a0 ≤ a0 ∧ 8 * a0 ≤ 281474976710656 ∧ a0 ≤ 9223372036854775807 then
    (mgraph_Cycle_l6 a0 r8 r9 0 (List.replicate a0.toNat 0)).bind fun (r43:(Int × (List Int) × (List Int)) ⊕ Unit)=>Sum.elim (fun z44 =>
    (mgraph_Cycle_l8 a0 r8 r9 z44.1 z44.2.1 z44.2.2).bind fun (r62:(List Int)) =>
     some r62) (fun z45 =>
    some []) r43
   else none
  else none
noncomputable def mgraph_reach_l1_s (a0:List (List Int)) (x5:List Int) (p6:Int) (p7:List Bool) (p8:List Int):Option ((Int × (List Bool) × (List Int)) ⊕ ((List Bool) × (List Int))) :=
 if decide (p6 < (x5.length:Int)) = true then
  (at? x5 p6).bind fun (x9:Int) =>
  if 0 ≤ x9 ∧ x9.toNat < p7.length then
   (p7[x9.toNat]?).bind fun (x10:Bool) =>
   if (!(x10)) = true then
    if 0 ≤ x9 ∧ x9.toNat < p7.length then
     (p7[x9.toNat]?).bind fun (x11:Bool) =>
     if (p8.length + 1) * 8 ≤ 140737488355328 then
      some (.inl (IntKind.wrap .i64 (p6 + 1),p7.set x9.toNat true,p8 ++ [x9]))
     else none
    else none
   else
    some (.inl (IntKind.wrap .i64 (p6 + 1),p7,p8))
  else none
 else
  some (.inr ((p7,p8)))
noncomputable def mgraph_reach_l1 (a0:List (List Int)) (x5:List Int) (p6:Int) (p7:List Bool) (p8:List Int):Option ((List Bool) × (List Int)) :=
 Iter (fun (w:Int × (List Bool) × (List Int))=>mgraph_reach_l1_s a0 x5 w.1 w.2.1 w.2.2) (p6,p7,p8)
noncomputable def mgraph_reach_l2_s (a0:List (List Int)) (p2:List Bool) (p3:List Int):Option (((List Bool) × (List Int)) ⊕ ((List Bool))) :=
 if decide ((p3.length:Int) > 0) = true then
  if 0 ≤ 0 ∧ 0 < p3.length then
   (p3[0]?).bind fun (x4:Int) =>
   if sliceOk p3.length 1 (p3.length:Int) then
    (at? a0 x4).bind fun (x5:List Int) =>
    (mgraph_reach_l1 a0 x5 0 p2 (sliceL p3 1 (p3.length:Int))).bind fun (r14:(List Bool) × (List Int)) =>
    some (.inl (r14.1,r14.2))
   else none
  else none
 else
  some (.inr (p2))
noncomputable def mgraph_reach_l2 (a0:List (List Int)) (p2:List Bool) (p3:List Int):Option ((List Bool)) :=
 Iter (fun (w:(List Bool) × (List Int))=>mgraph_reach_l2_s a0 w.1 w.2) (p2,p3)
noncomputable def mgraph_reach (a0:List (List Int)) (a1:Int):Option ((List Bool)) :=
 if 0 ≤ (a0.length:Int) ∧ (a0.length:Int) ≤ (a0.length:Int) ∧ 1 * (a0.length:Int) ≤ 281474976710656 ∧ (a0.length:Int) ≤ 9223372036854775807 then
  if 0 ≤ a1 ∧ a1.toNat < (List.replicate ((a0.length:Int).toNat) false).length then
   ((List.replicate ((a0.length:Int).toNat) false)[a1.toNat]?).bind fun (x1:Bool) =>
   (mgraph_reach_l2 a0 ((List.replicate ((a0.length:Int).toNat) false).set a1.toNat true) [a1]).bind fun (r16:(List Bool)) =>
   some r16
  else none
 else none
noncomputable def mgraph_Reach (a0:Int) (a1:List GArr2I) (a2:Int):Option ((List Bool)) :=
 (mgraph_right a0 a1).bind fun (r1:Bool) =>
 if (!(r1)) = true then
  some []
 else
  if decide (a2 < 0) = true then
   some []
  else
   if decide (a2 ≥ a0) = true then
    some []
   else
    (mgraph_next a0 a1).bind fun (r2:(List (List Int))) =>
    (mgraph_reach r2 a2).bind fun (r3:(List Bool)) =>
    some r3
noncomputable def mallongeref06_SameBools_l1_s (a0:List Bool) (a1:List Bool) (p1:Int):Option ((Int) ⊕ (Unit ⊕ Unit)) :=
 if decide (p1 < (a0.length:Int)) = true then
  (at? a0 p1).bind fun (x2:Bool) =>
  (at? a1 p1).bind fun (x3:Bool) =>
  if (!(x2 == x3)) = true then
   some (.inr (.inr (())))
  else
   some (.inl (IntKind.wrap .i64 (p1 + 1)))
 else
  some (.inr (.inl ()))
noncomputable def mallongeref06_SameBools_l1 (a0:List Bool) (a1:List Bool) (p1:Int):Option (Unit ⊕ Unit) :=
 Iter (fun (w:Int)=>mallongeref06_SameBools_l1_s a0 a1 w) p1
noncomputable def mallongeref06_SameBools (a0:List Bool) (a1:List Bool):Option (Bool) :=
 if ((a0.length:Int) != (a1.length:Int)) = true then
  some false
 else
  (mallongeref06_SameBools_l1 a0 a1 0).bind fun (r4:Unit ⊕ Unit)=>Sum.elim (fun z5 =>
  some true) (fun z6 =>
  some false) r4
noncomputable def mgraph_Groups_l1_s (a0:Int) (r2:(List (List Int))) (p3:Int) (p4:List (List Bool)):Option ((Int × (List (List Bool))) ⊕ ((List (List Bool)))) :=
 if decide (p3 < a0) = true then
  (mgraph_reach r2 p3).bind fun (r5:(List Bool)) =>
  if 0 ≤ p3 ∧ p3.toNat < p4.length then
   (p4[p3.toNat]?).bind fun (x6:List Bool) =>
   some (.inl (IntKind.wrap .i64 (p3 + 1),p4.set p3.toNat r5))
  else none
 else
  some (.inr (p4))
noncomputable def mgraph_Groups_l1 (a0:Int) (r2:(List (List Int))) (p3:Int) (p4:List (List Bool)):Option ((List (List Bool))) :=
 Iter (fun (w:Int × (List (List Bool)))=>mgraph_Groups_l1_s a0 r2 w.1 w.2) (p3,p4)
noncomputable def mgraph_Groups_l2_s (a0:Int) (p11:List (List Int)) (p9:Int) (r8:(List (List Bool))) (p13:Int) (p14:List Bool) (p15:List Int):Option ((Int × (List Bool) × (List Int)) ⊕ ((List Bool) × (List Int))) :=
 if decide (p13 < a0) = true then
  if 0 ≤ p9 ∧ p9.toNat < r8.length then
   (r8[p9.toNat]?).bind fun (x16:List Bool) =>
   (at? x16 p13).bind fun (x17:Bool) =>
   if x17 = true then
    if 0 ≤ p13 ∧ p13.toNat < r8.length then
     (r8[p13.toNat]?).bind fun (x18:List Bool) =>
     (at? x18 p9).bind fun (x19:Bool) =>
     if x19 = true then
      if (p15.length + 1) * 8 ≤ 140737488355328 then
       if 0 ≤ p13 ∧ p13.toNat < p14.length then
        (p14[p13.toNat]?).bind fun (x20:Bool) =>
        some (.inl (IntKind.wrap .i64 (p13 + 1),p14.set p13.toNat true,p15 ++ [p13]))
       else none
      else none
     else
      some (.inl (IntKind.wrap .i64 (p13 + 1),p14,p15))
    else none
   else
    some (.inl (IntKind.wrap .i64 (p13 + 1),p14,p15))
  else none
 else
  some (.inr ((p14,p15)))
noncomputable def mgraph_Groups_l2 (a0:Int) (p11:List (List Int)) (p9:Int) (r8:(List (List Bool))) (p13:Int) (p14:List Bool) (p15:List Int):Option ((List Bool) × (List Int)) :=
 Iter (fun (w:Int × (List Bool) × (List Int))=>mgraph_Groups_l2_s a0 p11 p9 r8 w.1 w.2.1 w.2.2) (p13,p14,p15)
noncomputable def mgraph_Groups_l3_s (a0:Int) (r8:(List (List Bool))) (p9:Int) (p10:List Bool) (p11:List (List Int)):Option ((Int × (List Bool) × (List (List Int))) ⊕ ((List (List Int)))) :=
 if decide (p9 < a0) = true then
  if 0 ≤ p9 ∧ p9.toNat < p10.length then
   (p10[p9.toNat]?).bind fun (x12:Bool) =>
   if x12 = true then
    some (.inl (IntKind.wrap .i64 (p9 + 1),p10,p11))
   else
    (mgraph_Groups_l2 a0 p11 p9 r8 p9 p10 []).bind fun (r23:(List Bool) × (List Int)) =>
    if (p11.length + 1) * 24 ≤ 140737488355328 then
     some (.inl (IntKind.wrap .i64 (p9 + 1),r23.1,p11 ++ [r23.2]))
    else none
  else none
 else
  some (.inr (p11))
noncomputable def mgraph_Groups_l3 (a0:Int) (r8:(List (List Bool))) (p9:Int) (p10:List Bool) (p11:List (List Int)):Option ((List (List Int))) :=
 Iter (fun (w:Int × (List Bool) × (List (List Int)))=>mgraph_Groups_l3_s a0 r8 w.1 w.2.1 w.2.2) (p9,p10,p11)
noncomputable def mgraph_Groups (a0:Int) (a1:List GArr2I):Option ((List (List Int))) :=
 (mgraph_right a0 a1).bind fun (r1:Bool) =>
 if (!(r1)) = true then
  some []
 else
  (mgraph_next a0 a1).bind fun (r2:(List (List Int))) =>
  if 0 ≤ a0 ∧ a0 ≤ a0 ∧ 24 * a0 ≤ 281474976710656 ∧ a0 ≤ 9223372036854775807 then
   (mgraph_Groups_l1 a0 r2 0 (List.replicate a0.toNat [])).bind fun (r8:(List (List Bool))) =>
   if 0 ≤ a0 ∧ a0 ≤ a0 ∧ 1 * a0 ≤ 281474976710656 ∧ a0 ≤ 9223372036854775807 then
    (mgraph_Groups_l3 a0 r8 0 (List.replicate a0.toNat false) []).bind fun (r25:(List (List Int))) =>
    some r25
   else none
  else none
noncomputable def mallongeref06_SameLists_l1_s (a0:List (List Int)) (a1:List (List Int)) (p1:Int):Option ((Int) ⊕ (Unit ⊕ Unit)) :=
 if decide (p1 < (a0.length:Int)) = true then
  (at? a0 p1).bind fun (x2:List Int) =>
  (at? a1 p1).bind fun (x3:List Int) =>
  (mallongeref06_SameInts x2 x3).bind fun (r4:Bool) =>
  if (!(r4)) = true then
   some (.inr (.inr (())))
  else
   some (.inl (IntKind.wrap .i64 (p1 + 1)))
 else
  some (.inr (.inl ()))
noncomputable def mallongeref06_SameLists_l1 (a0:List (List Int)) (a1:List (List Int)) (p1:Int):Option (Unit ⊕ Unit) :=
 Iter (fun (w:Int)=>mallongeref06_SameLists_l1_s a0 a1 w) p1
noncomputable def mallongeref06_SameLists (a0:List (List Int)) (a1:List (List Int)):Option (Bool) :=
 if ((a0.length:Int) != (a1.length:Int)) = true then
  some false
 else
  (mallongeref06_SameLists_l1 a0 a1 0).bind fun (r5:Unit ⊕ Unit)=>Sum.elim (fun z6 =>
  some true) (fun z7 =>
  some false) r5
noncomputable def mallongelaw06_sane:Option (Bool) :=
 (mgraph_Order 5 [(GArr2I.mk 3 1),(GArr2I.mk 1 2),(GArr2I.mk 2 1),(GArr2I.mk 0 4)]).bind fun (r1:(List Int) × Bool) =>
 (mgraph_Order 5 [(GArr2I.mk 3 1),(GArr2I.mk 1 2),(GArr2I.mk 0 4)]).bind fun (r2:(List Int) × Bool) =>
 if (0 + 4) * 16 ≤ 140737488355328 then
  if ((([]:List GArr2I) ++ [(GArr2I.mk 3 1),(GArr2I.mk 1 2),(GArr2I.mk 2 1),(GArr2I.mk 0 4)]).length + 1) * 16 ≤ 140737488355328 then
   if r1.2 = true then
    some false
   else
    if (!(r2.2)) = true then
     some false
    else
     (mallongeref06_SameInts r2.1 [0,3,1,2,4]).bind fun (r3:Bool) =>
     if (!(r3)) = true then
      some false
     else
      (mgraph_Cycle 5 [(GArr2I.mk 3 1),(GArr2I.mk 1 2),(GArr2I.mk 2 1),(GArr2I.mk 0 4)]).bind fun (r4:(List Int)) =>
      (mallongeref06_SameInts r4 [1,2]).bind fun (r5:Bool) =>
      if (!(r5)) = true then
       some false
      else
       (mgraph_Cycle 5 ((([]:List GArr2I) ++ [(GArr2I.mk 3 1),(GArr2I.mk 1 2),(GArr2I.mk 2 1),(GArr2I.mk 0 4)]) ++ [(GArr2I.mk 4 0)])).bind fun (r6:(List Int)) =>
       (mallongeref06_SameInts r6 [0,4]).bind fun (r7:Bool) =>
       if (!(r7)) = true then
        some false
       else
        (mgraph_Reach 5 [(GArr2I.mk 3 1),(GArr2I.mk 1 2),(GArr2I.mk 2 1),(GArr2I.mk 0 4)] 3).bind fun (r8:(List Bool)) =>
        (mallongeref06_SameBools r8 [false,true,true,true,false]).bind fun (r9:Bool) =>
        if r9 = true then
         (mgraph_Groups 5 [(GArr2I.mk 3 1),(GArr2I.mk 1 2),(GArr2I.mk 2 1),(GArr2I.mk 0 4)]).bind fun (r10:(List (List Int))) =>
         (mallongeref06_SameLists r10 [[0],[1,2],[3],[4]]).bind fun (r11:Bool) =>
         if r11 = true then
          (mgraph_Reach 5 [(GArr2I.mk 3 1),(GArr2I.mk 1 2),(GArr2I.mk 2 1),(GArr2I.mk 0 4)] 5).bind fun (r12:(List Bool)) =>
          some ((r12.length:Int) == 0)
         else
          some false
        else
         some false
  else none
 else none
noncomputable def mallongelaw06_few (a0:Int) (a1:List GArr2I):Option (Bool) :=
 if decide (a0 ≤ 7) = true then
  some (decide ((a1.length:Int) ≤ 24))
 else
  if decide (a0 > 300) = true then
   some (decide ((a1.length:Int) ≤ 24))
  else
   some false
noncomputable def mallongeref06_Right_l1_s (a0:Int) (a1:List GArr2I) (p1:Int):Option ((Int) ⊕ (Unit ⊕ Unit)) :=
 if decide (p1 < (a1.length:Int)) = true then
  (at? a1 p1).bind fun (x2:GArr2I) =>
  if decide (x2.e0 < 0) = true then
   some (.inr (.inr (())))
  else
   (at? a1 p1).bind fun (x3:GArr2I) =>
   if decide (x3.e0 ≥ a0) = true then
    some (.inr (.inr (())))
   else
    (at? a1 p1).bind fun (x4:GArr2I) =>
    if decide (x4.e1 < 0) = true then
     some (.inr (.inr (())))
    else
     (at? a1 p1).bind fun (x5:GArr2I) =>
     if decide (x5.e1 ≥ a0) = true then
      some (.inr (.inr (())))
     else
      some (.inl (IntKind.wrap .i64 (p1 + 1)))
 else
  some (.inr (.inl ()))
noncomputable def mallongeref06_Right_l1 (a0:Int) (a1:List GArr2I) (p1:Int):Option (Unit ⊕ Unit) :=
 Iter (fun (w:Int)=>mallongeref06_Right_l1_s a0 a1 w) p1
noncomputable def mallongeref06_Right (a0:Int) (a1:List GArr2I):Option (Bool) :=
 if decide (a0 < 0) = true then
  some false
 else
  if decide (a0 > 300) = true then
   some false
  else
   if decide ((a1.length:Int) > 2000) = true then
    some false
   else
    (mallongeref06_Right_l1 a0 a1 0).bind fun (r6:Unit ⊕ Unit)=>Sum.elim (fun z7 =>
    some true) (fun z8 =>
    some false) r6
noncomputable def mallongeref06_Order_l1_s (a0:Int) (a1:List GArr2I) (p2:List Bool) (p3:List Int) (p4:Int) (p5:Int) (p7:Bool) (p8:Int):Option ((Bool × Int) ⊕ (Bool)) :=
 if decide (p8 < (a1.length:Int)) = true then
  if p7 = true then
   (at? a1 p8).bind fun (x9:GArr2I) =>
   if (x9.e1 != p5) = true then
    some (.inl (true,IntKind.wrap .i64 (p8 + 1)))
   else
    (at? a1 p8).bind fun (x10:GArr2I) =>
    if 0 ≤ x10.e0 ∧ x10.e0.toNat < p2.length then
     (p2[x10.e0.toNat]?).bind fun (x11:Bool) =>
     some (.inl (x11,IntKind.wrap .i64 (p8 + 1)))
    else none
  else
   some (.inr (p7))
 else
  some (.inr (p7))
noncomputable def mallongeref06_Order_l1 (a0:Int) (a1:List GArr2I) (p2:List Bool) (p3:List Int) (p4:Int) (p5:Int) (p7:Bool) (p8:Int):Option (Bool) :=
 Iter (fun (w:Bool × Int)=>mallongeref06_Order_l1_s a0 a1 p2 p3 p4 p5 w.1 w.2) (p7,p8)
noncomputable def mallongeref06_Order_l2_s (a0:Int) (a1:List GArr2I) (p2:List Bool) (p3:List Int) (p4:Int) (p5:Int):Option ((Int × Int) ⊕ (Int)) :=
 if decide (p5 ≥ 0) = true then
  if 0 ≤ p5 ∧ p5.toNat < p2.length then
   (p2[p5.toNat]?).bind fun (x6:Bool) =>
   (mallongeref06_Order_l1 a0 a1 p2 p3 p4 p5 (!(x6)) 0).bind fun (r13:Bool) =>
   if r13 = true then
    some (.inl (p5,IntKind.wrap .i64 (p5 - 1)))
   else
    some (.inl (p4,IntKind.wrap .i64 (p5 - 1)))
  else none
 else
  some (.inr (p4))
noncomputable def mallongeref06_Order_l2 (a0:Int) (a1:List GArr2I) (p2:List Bool) (p3:List Int) (p4:Int) (p5:Int):Option (Int) :=
 Iter (fun (w:Int × Int)=>mallongeref06_Order_l2_s a0 a1 p2 p3 w.1 w.2) (p4,p5)
noncomputable def mallongeref06_Order_l3_s (a0:Int) (a1:List GArr2I) (p2:List Bool) (p3:List Int):Option (((List Bool) × (List Int)) ⊕ (((List Int)) ⊕ ((List Int)))) :=
 if decide ((p3.length:Int) < a0) = true then
  (mallongeref06_Order_l2 a0 a1 p2 p3 (-1) (IntKind.wrap .i64 (a0 - 1))).bind fun (r15:Int) =>
  if decide (r15 < 0) = true then
   some (.inr (.inr (p3)))
  else
   if 0 ≤ r15 ∧ r15.toNat < p2.length then
    (p2[r15.toNat]?).bind fun (x16:Bool) =>
    if (p3.length + 1) * 8 ≤ 140737488355328 then
     some (.inl (p2.set r15.toNat true,p3 ++ [r15]))
    else none
   else none
 else
  some (.inr (.inl p3))
noncomputable def mallongeref06_Order_l3 (a0:Int) (a1:List GArr2I) (p2:List Bool) (p3:List Int):Option (((List Int)) ⊕ ((List Int))) :=
 Iter (fun (w:(List Bool) × (List Int))=>mallongeref06_Order_l3_s a0 a1 w.1 w.2) (p2,p3)
noncomputable def mallongeref06_Order (a0:Int) (a1:List GArr2I):Option ((List Int) × Bool) :=
 (mallongeref06_Right a0 a1).bind fun (r1:Bool) =>
 if (!(r1)) = true then
  some ([],false)
 else
  if 0 ≤ a0 ∧ a0 ≤ a0 ∧ 1 * a0 ≤ 281474976710656 ∧ a0 ≤ 9223372036854775807 then
   (mallongeref06_Order_l3 a0 a1 (List.replicate a0.toNat false) []).bind fun (r19:((List Int)) ⊕ ((List Int)))=>Sum.elim (fun z20 =>
   some (z20,true)) (fun z21 =>
   some ([],false)) r19
  else none
noncomputable def mallongeref06_Reach_l1_s (a0:Int) (a1:List GArr2I) (p3:Int) (p5:Int) (p6:List Bool):Option ((Int × (List Bool)) ⊕ ((List Bool))) :=
 if decide (p5 < (a1.length:Int)) = true then
  (at? a1 p5).bind fun (x7:GArr2I) =>
  if 0 ≤ x7.e0 ∧ x7.e0.toNat < p6.length then
   (p6[x7.e0.toNat]?).bind fun (x8:Bool) =>
   if x8 = true then
    (at? a1 p5).bind fun (x9:GArr2I) =>
    if 0 ≤ x9.e1 ∧ x9.e1.toNat < p6.length then
     (p6[x9.e1.toNat]?).bind fun (x10:Bool) =>
     some (.inl (IntKind.wrap .i64 (p5 + 1),p6.set x9.e1.toNat true))
    else none
   else
    some (.inl (IntKind.wrap .i64 (p5 + 1),p6))
  else none
 else
  some (.inr (p6))
noncomputable def mallongeref06_Reach_l1 (a0:Int) (a1:List GArr2I) (p3:Int) (p5:Int) (p6:List Bool):Option ((List Bool)) :=
 Iter (fun (w:Int × (List Bool))=>mallongeref06_Reach_l1_s a0 a1 p3 w.1 w.2) (p5,p6)
noncomputable def mallongeref06_Reach_l2_s (a0:Int) (a1:List GArr2I) (p3:Int) (p4:List Bool):Option ((Int × (List Bool)) ⊕ ((List Bool))) :=
 if decide (p3 < a0) = true then
  (mallongeref06_Reach_l1 a0 a1 p3 0 p4).bind fun (r12:(List Bool)) =>
  some (.inl (IntKind.wrap .i64 (p3 + 1),r12))
 else
  some (.inr (p4))
noncomputable def mallongeref06_Reach_l2 (a0:Int) (a1:List GArr2I) (p3:Int) (p4:List Bool):Option ((List Bool)) :=
 Iter (fun (w:Int × (List Bool))=>mallongeref06_Reach_l2_s a0 a1 w.1 w.2) (p3,p4)
noncomputable def mallongeref06_Reach (a0:Int) (a1:List GArr2I) (a2:Int):Option ((List Bool)) :=
 (mallongeref06_Right a0 a1).bind fun (r1:Bool) =>
 if (!(r1)) = true then
  some []
 else
  if decide (a2 < 0) = true then
   some []
  else
   if decide (a2 ≥ a0) = true then
    some []
   else
    if 0 ≤ a0 ∧ a0 ≤ a0 ∧ 1 * a0 ≤ 281474976710656 ∧ a0 ≤ 9223372036854775807 then
     if 0 ≤ a2 ∧ a2.toNat < (List.replicate a0.toNat false).length then
      ((List.replicate a0.toNat false)[a2.toNat]?).bind fun (x2:Bool) =>
      (mallongeref06_Reach_l2 a0 a1 0 ((List.replicate a0.toNat false).set a2.toNat true)).bind fun (r14:(List Bool)) =>
      some r14
     else none
    else none
noncomputable def mallongeref06_closing (a0:Int) (a1:List GArr2I) (a2:List Int) (a3:Int):Option ((List Int)):=if okC a0 (a1.map fun e=>(e.e0,e.e1)) a2 a3 = true then some (closeL (a1.map fun e=>(e.e0,e.e1)) a0 a3.toNat a2) else none
noncomputable def mallongeref06_Cycle_l1_s (a0:Int) (a1:List GArr2I) (p2:Int) (p3:Int):Option ((Int) ⊕ (Unit ⊕ ((List Int)))) :=
 if decide (p3 < a0) = true then
  (mallongeref06_closing a0 a1 [p3] (IntKind.wrap .i64 (p2 - 1))).bind fun (r4:(List Int)) =>
  if decide ((r4.length:Int) > 0) = true then
   some (.inr (.inr (r4)))
  else
   some (.inl (IntKind.wrap .i64 (p3 + 1)))
 else
  some (.inr (.inl ()))
noncomputable def mallongeref06_Cycle_l1 (a0:Int) (a1:List GArr2I) (p2:Int) (p3:Int):Option (Unit ⊕ ((List Int))) :=
 Iter (fun (w:Int)=>mallongeref06_Cycle_l1_s a0 a1 p2 w) p3
noncomputable def mallongeref06_Cycle_l2_s (a0:Int) (a1:List GArr2I) (p2:Int):Option ((Int) ⊕ (Unit ⊕ ((List Int)))) :=
 if decide (p2 ≤ a0) = true then
  (mallongeref06_Cycle_l1 a0 a1 p2 0).bind fun (r6:Unit ⊕ ((List Int)))=>Sum.elim (fun z7 =>
  some (.inl (IntKind.wrap .i64 (p2 + 1)))) (fun z8 =>
  some (.inr (.inr (z8)))) r6
 else
  some (.inr (.inl ()))
noncomputable def mallongeref06_Cycle_l2 (a0:Int) (a1:List GArr2I) (p2:Int):Option (Unit ⊕ ((List Int))) :=
 Iter (fun (w:Int)=>mallongeref06_Cycle_l2_s a0 a1 w) p2
noncomputable def mallongeref06_Cycle (a0:Int) (a1:List GArr2I):Option ((List Int)) :=
 (mallongeref06_Right a0 a1).bind fun (r1:Bool) =>
 if (!(r1)) = true then
  some []
 else
  (mallongeref06_Cycle_l2 a0 a1 1).bind fun (r10:Unit ⊕ ((List Int)))=>Sum.elim (fun z11 =>
  some []) (fun z12 =>
  some z12) r10
noncomputable def mallongeref06_Groups_l1_s (a0:Int) (a1:List GArr2I) (p2:Int) (p3:List (List Int)) (r4:(List Bool)) (p5:Bool) (p6:Int) (p7:List Int):Option ((Bool × Int × (List Int)) ⊕ (Bool × (List Int))) :=
 if decide (p6 < a0) = true then
  (at? r4 p6).bind fun (x8:Bool) =>
  if x8 = true then
   (mallongeref06_Reach a0 a1 p6).bind fun (r9:(List Bool)) =>
   (at? r9 p2).bind fun (x10:Bool) =>
   if x10 = true then
    if (p7.length + 1) * 8 ≤ 140737488355328 then
     if p5 = true then
      some (.inl (decide (p6 ≥ p2),IntKind.wrap .i64 (p6 + 1),p7 ++ [p6]))
     else
      some (.inl (false,IntKind.wrap .i64 (p6 + 1),p7 ++ [p6]))
    else none
   else
    some (.inl (p5,IntKind.wrap .i64 (p6 + 1),p7))
  else
   some (.inl (p5,IntKind.wrap .i64 (p6 + 1),p7))
 else
  some (.inr ((p5,p7)))
noncomputable def mallongeref06_Groups_l1 (a0:Int) (a1:List GArr2I) (p2:Int) (p3:List (List Int)) (r4:(List Bool)) (p5:Bool) (p6:Int) (p7:List Int):Option (Bool × (List Int)) :=
 Iter (fun (w:Bool × Int × (List Int))=>mallongeref06_Groups_l1_s a0 a1 p2 p3 r4 w.1 w.2.1 w.2.2) (p5,p6,p7)
noncomputable def mallongeref06_Groups_l2_s (a0:Int) (a1:List GArr2I) (p2:Int) (p3:List (List Int)):Option ((Int × (List (List Int))) ⊕ ((List (List Int)))) :=
 if decide (p2 < a0) = true then
  (mallongeref06_Reach a0 a1 p2).bind fun (r4:(List Bool)) =>
  (mallongeref06_Groups_l1 a0 a1 p2 p3 r4 true 0 []).bind fun (r13:Bool × (List Int)) =>
  if r13.1 = true then
   if (p3.length + 1) * 24 ≤ 140737488355328 then
    some (.inl (IntKind.wrap .i64 (p2 + 1),p3 ++ [r13.2]))
   else none
  else
   some (.inl (IntKind.wrap .i64 (p2 + 1),p3))
 else
  some (.inr (p3))
noncomputable def mallongeref06_Groups_l2 (a0:Int) (a1:List GArr2I) (p2:Int) (p3:List (List Int)):Option ((List (List Int))) :=
 Iter (fun (w:Int × (List (List Int)))=>mallongeref06_Groups_l2_s a0 a1 w.1 w.2) (p2,p3)
noncomputable def mallongeref06_Groups (a0:Int) (a1:List GArr2I):Option ((List (List Int))) :=
 (mallongeref06_Right a0 a1).bind fun (r1:Bool) =>
 if (!(r1)) = true then
  some []
 else
  (mallongeref06_Groups_l2 a0 a1 0 []).bind fun (r15:(List (List Int))) =>
  some r15
noncomputable def mallongelaw06_GraphTells (a0:Int) (a1:List GArr2I) (a2:Int):Option (Bool) :=
 (mallongelaw06_sane).bind fun (r1:Bool) =>
 (mallongelaw06_few a0 a1).bind fun (r2:Bool) =>
 if (!(r2)) = true then
  some r1
 else
  (mgraph_Order a0 a1).bind fun (r3:(List Int) × Bool) =>
  (mallongeref06_Order a0 a1).bind fun (r4:(List Int) × Bool) =>
  if (!(r3.2 == r4.2)) = true then
   some false
  else
   (mallongeref06_SameInts r3.1 r4.1).bind fun (r5:Bool) =>
   if (!(r5)) = true then
    some false
   else
    (mgraph_Reach a0 a1 a2).bind fun (r6:(List Bool)) =>
    (mallongeref06_Reach a0 a1 a2).bind fun (r7:(List Bool)) =>
    (mallongeref06_SameBools r6 r7).bind fun (r8:Bool) =>
    if (!(r8)) = true then
     some false
    else
     if r1 = true then
      (mgraph_Cycle a0 a1).bind fun (r9:(List Int)) =>
      (mallongeref06_Cycle a0 a1).bind fun (r10:(List Int)) =>
      (mallongeref06_SameInts r9 r10).bind fun (r11:Bool) =>
      if r11 = true then
       (mgraph_Groups a0 a1).bind fun (r12:(List (List Int))) =>
       (mallongeref06_Groups a0 a1).bind fun (r13:(List (List Int))) =>
       (mallongeref06_SameLists r12 r13).bind fun (r14:Bool) =>
       some r14
      else
       some false
     else
      some false
end Go.Proofs.Ytlpgfmnicomjjaa
