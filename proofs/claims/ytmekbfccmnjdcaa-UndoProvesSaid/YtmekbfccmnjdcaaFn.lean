/- What the functions compute, as plain definitions. Printed by a program. -/
import Derived.Test.YtmekbfccmnjdcaaTab
set_option linter.unusedVariables false
set_option linter.unusedSimpArgs false
namespace Go.Proofs.Ytmekbfccmnjdcaa
open Vm
open Go.RowKit
noncomputable def mallongelaw45_example:Option ((List GLean)) :=
 some [(GLean.mk []),(GLean.mk []),(GLean.mk []),(GLean.mk [[0,1],[2]]),(GLean.mk [[3]]),(GLean.mk [[1]])]
noncomputable def mundo_rising_l1_s (a0:List Int) (a1:Int) (p1:Int):Option ((Int) ⊕ (Unit ⊕ Unit)) :=
 if decide (p1 < (a0.length:Int)) = true then
  (at? a0 p1).bind fun (x2:Int) =>
  if decide (x2 < 0) = true then
   some (.inr (.inr (())))
  else
   if decide (x2 ≥ a1) = true then
    some (.inr (.inr (())))
   else
    if decide (p1 > 0) = true then
     (at? a0 (IntKind.wrap .i64 (p1 - 1))).bind fun (x3:Int) =>
     if decide (x2 ≤ x3) = true then
      some (.inr (.inr (())))
     else
      some (.inl (IntKind.wrap .i64 (p1 + 1)))
    else
     some (.inl (IntKind.wrap .i64 (p1 + 1)))
 else
  some (.inr (.inl ()))
noncomputable def mundo_rising_l1 (a0:List Int) (a1:Int) (p1:Int):Option (Unit ⊕ Unit) :=
 Iter (fun (w:Int)=>mundo_rising_l1_s a0 a1 w) p1
noncomputable def mundo_rising (a0:List Int) (a1:Int):Option (Bool) :=
 (mundo_rising_l1 a0 a1 0).bind fun (r4:Unit ⊕ Unit)=>Sum.elim (fun z5 =>
 some true) (fun z6 =>
 some false) r4
noncomputable def mundo_Right_l1_s (a0:List GLean) (p1:Int) (x2:GLean) (p3:Int):Option ((Int) ⊕ (Unit ⊕ Unit)) :=
 if decide (p3 < (x2.Supports.length:Int)) = true then
  (at? x2.Supports p3).bind fun (x4:List Int) =>
  if decide ((x4.length:Int) < 1) = true then
   some (.inr (.inr (())))
  else
   if decide ((x4.length:Int) > 20) = true then
    some (.inr (.inr (())))
   else
    (mundo_rising x4 p1).bind fun (r5:Bool) =>
    if (!(r5)) = true then
     some (.inr (.inr (())))
    else
     some (.inl (IntKind.wrap .i64 (p3 + 1)))
 else
  some (.inr (.inl ()))
noncomputable def mundo_Right_l1 (a0:List GLean) (p1:Int) (x2:GLean) (p3:Int):Option (Unit ⊕ Unit) :=
 Iter (fun (w:Int)=>mundo_Right_l1_s a0 p1 x2 w) p3
noncomputable def mundo_Right_l2_s (a0:List GLean) (p1:Int):Option ((Int) ⊕ (Unit ⊕ Unit)) :=
 if decide (p1 < (a0.length:Int)) = true then
  (at? a0 p1).bind fun (x2:GLean) =>
  if decide ((x2.Supports.length:Int) > 20) = true then
   some (.inr (.inr (())))
  else
   (mundo_Right_l1 a0 p1 x2 0).bind fun (r6:Unit ⊕ Unit)=>Sum.elim (fun z7 =>
   some (.inl (IntKind.wrap .i64 (p1 + 1)))) (fun z8 =>
   some (.inr (.inr (())))) r6
 else
  some (.inr (.inl ()))
noncomputable def mundo_Right_l2 (a0:List GLean) (p1:Int):Option (Unit ⊕ Unit) :=
 Iter (fun (w:Int)=>mundo_Right_l2_s a0 w) p1
noncomputable def mundo_Right (a0:List GLean):Option (Bool) :=
 if decide ((a0.length:Int) > 300) = true then
  some false
 else
  (mundo_Right_l2 a0 0).bind fun (r9:Unit ⊕ Unit)=>Sum.elim (fun z10 =>
  some true) (fun z11 =>
  some false) r9
noncomputable def mundo_whole_1_s1 (a0:Int) (a1:Option MB):Option (Bool) :=
 if in64 a0 then
  some (!(getO a0 false a1))
 else none
noncomputable def mslices_IndexFunc_int_int_112_s1_l1_s (a0:List Int) (a1:Option MB) (p1:Int):Option ((Int) ⊕ (Unit ⊕ Int)) :=
 if decide (p1 < (a0.length:Int)) = true then
  (at? a0 p1).bind fun (x2:Int) =>
  (mundo_whole_1_s1 x2 a1).bind fun (r3:Bool) =>
  if r3 = true then
   some (.inr (.inr (p1)))
  else
   some (.inl (IntKind.wrap .i64 (p1 + 1)))
 else
  some (.inr (.inl ()))
noncomputable def mslices_IndexFunc_int_int_112_s1_l1 (a0:List Int) (a1:Option MB) (p1:Int):Option (Unit ⊕ Int) :=
 Iter (fun (w:Int)=>mslices_IndexFunc_int_int_112_s1_l1_s a0 a1 w) p1
noncomputable def mslices_IndexFunc_int_int_112_s1 (a0:List Int) (a1:Option MB):Option (Int) :=
 (mslices_IndexFunc_int_int_112_s1_l1 a0 a1 0).bind fun (r5:Unit ⊕ Int)=>Sum.elim (fun z6 =>
 some (-1)) (fun z7 =>
 some z7) r5
noncomputable def mslices_ContainsFunc_int_int_73_s1 (a0:List Int) (a1:Option MB):Option (Bool) :=
 (mslices_IndexFunc_int_int_112_s1 a0 a1).bind fun (r1:Int) =>
 some (decide (r1 ≥ 0))
noncomputable def mundo_whole (a0:List Int) (a1:Option MB):Option (Bool) :=
 (mslices_ContainsFunc_int_int_73_s1 a0 a1).bind fun (r1:Bool) =>
 some (!(r1))
noncomputable def mundo_held_1_s1 (a0:List Int) (a1:Option MB):Option (Bool) :=
 (mundo_whole a0 a1).bind fun (r1:Bool) =>
 some r1
noncomputable def mslices_IndexFunc_int_int_113_s1_l1_s (a0:List (List Int)) (a1:Option MB) (p1:Int):Option ((Int) ⊕ (Unit ⊕ Int)) :=
 if decide (p1 < (a0.length:Int)) = true then
  (at? a0 p1).bind fun (x2:List Int) =>
  (mundo_held_1_s1 x2 a1).bind fun (r3:Bool) =>
  if r3 = true then
   some (.inr (.inr (p1)))
  else
   some (.inl (IntKind.wrap .i64 (p1 + 1)))
 else
  some (.inr (.inl ()))
noncomputable def mslices_IndexFunc_int_int_113_s1_l1 (a0:List (List Int)) (a1:Option MB) (p1:Int):Option (Unit ⊕ Int) :=
 Iter (fun (w:Int)=>mslices_IndexFunc_int_int_113_s1_l1_s a0 a1 w) p1
noncomputable def mslices_IndexFunc_int_int_113_s1 (a0:List (List Int)) (a1:Option MB):Option (Int) :=
 (mslices_IndexFunc_int_int_113_s1_l1 a0 a1 0).bind fun (r5:Unit ⊕ Int)=>Sum.elim (fun z6 =>
 some (-1)) (fun z7 =>
 some z7) r5
noncomputable def mslices_ContainsFunc_int_int_78_s1 (a0:List (List Int)) (a1:Option MB):Option (Bool) :=
 (mslices_IndexFunc_int_int_113_s1 a0 a1).bind fun (r1:Int) =>
 some (decide (r1 ≥ 0))
noncomputable def mundo_held (a0:GLean) (a1:Option MB):Option (Bool) :=
 if ((a0.Supports.length:Int) == 0) = true then
  some true
 else
  (mslices_ContainsFunc_int_int_78_s1 a0.Supports a1).bind fun (r1:Bool) =>
  some r1
noncomputable def mundo_standing_l1_s (a0:List GLean) (a1:List Bool) (p1:Int) (p2:MB):Option ((Int × MB) ⊕ (MB)) :=
 if decide (p1 < (a0.length:Int)) = true then
  (at? a0 p1).bind fun (x3:GLean) =>
  (at? a1 p1).bind fun (x4:Bool) =>
  if (!(x4)) = true then
   (mundo_held x3 (some p2)).bind fun (r5:Bool) =>
   if r5 = true then
    if in64 p1 then
     if p2.length < 1000000000000 then
      some (.inl (IntKind.wrap .i64 (p1 + 1),putG p1 true p2))
     else none
    else none
   else
    some (.inl (IntKind.wrap .i64 (p1 + 1),p2))
  else
   some (.inl (IntKind.wrap .i64 (p1 + 1),p2))
 else
  some (.inr (p2))
noncomputable def mundo_standing_l1 (a0:List GLean) (a1:List Bool) (p1:Int) (p2:MB):Option (MB) :=
 Iter (fun (w:Int × MB)=>mundo_standing_l1_s a0 a1 w.1 w.2) (p1,p2)
noncomputable def mundo_standing (a0:List GLean) (a1:List Bool):Option (MB) :=
 (mundo_standing_l1 a0 a1 0 []).bind fun (r7:MB) =>
 some r7
noncomputable def mundo_Why_l1_s (a0:List GLean) (r2:MB) (p3:Int) (p4:MB):Option ((Int × MB) ⊕ (MB)) :=
 if decide (p3 < (a0.length:Int)) = true then
  if in64 p3 then
   if p4.length < 1000000000000 then
    some (.inl (IntKind.wrap .i64 (p3 + 1),putG p3 true p4))
   else none
  else none
 else
  some (.inr (p4))
noncomputable def mundo_Why_l1 (a0:List GLean) (r2:MB) (p3:Int) (p4:MB):Option (MB) :=
 Iter (fun (w:Int × MB)=>mundo_Why_l1_s a0 r2 w.1 w.2) (p3,p4)
noncomputable def mundo_Why_l2_s (r2:MB) (p7:Int) (p8:MB):Option ((Int × MB) ⊕ (MB)) :=
 if decide (p7 < ([some r2].length:Int)) = true then
  if 0 ≤ p7 ∧ p7.toNat < 1 then
   ([some r2][p7.toNat]?).bind fun (x9:Option MB) =>
   some (.inl (IntKind.wrap .i64 (p7 + 1),subO x9 p8))
  else none
 else
  some (.inr (p8))
noncomputable def mundo_Why_l2 (r2:MB) (p7:Int) (p8:MB):Option (MB) :=
 Iter (fun (w:Int × MB)=>mundo_Why_l2_s r2 w.1 w.2) (p7,p8)
noncomputable def mundo_Why_l3_s (a0:List GLean) (p12:Int) (r2:MB) (x16:List Int) (p18:Int) (p19:MB):Option ((Int × MB) ⊕ (MB)) :=
 if decide (p18 < (x16.length:Int)) = true then
  (at? x16 p18).bind fun (x20:Int) =>
  if in64 x20 then
   if p19.length < 1000000000000 then
    some (.inl (IntKind.wrap .i64 (p18 + 1),putG x20 true p19))
   else none
  else none
 else
  some (.inr (p19))
noncomputable def mundo_Why_l3 (a0:List GLean) (p12:Int) (r2:MB) (x16:List Int) (p18:Int) (p19:MB):Option (MB) :=
 Iter (fun (w:Int × MB)=>mundo_Why_l3_s a0 p12 r2 x16 w.1 w.2) (p18,p19)
noncomputable def mundo_Why_l4_s (a0:List GLean) (p12:Int) (p13:MB) (r2:MB) (x14:GLean) (p15:Int):Option ((Int) ⊕ (MB)) :=
 if decide (p15 < (x14.Supports.length:Int)) = true then
  (at? x14.Supports p15).bind fun (x16:List Int) =>
  (mundo_whole x16 (some r2)).bind fun (r17:Bool) =>
  if r17 = true then
   (mundo_Why_l3 a0 p12 r2 x16 0 p13).bind fun (r22:MB) =>
   some (.inr (r22))
  else
   some (.inl (IntKind.wrap .i64 (p15 + 1)))
 else
  some (.inr (p13))
noncomputable def mundo_Why_l4 (a0:List GLean) (p12:Int) (p13:MB) (r2:MB) (x14:GLean) (p15:Int):Option (MB) :=
 Iter (fun (w:Int)=>mundo_Why_l4_s a0 p12 p13 r2 x14 w) p15
noncomputable def mundo_Why_l5_s (a0:List GLean) (r2:MB) (p12:Int) (p13:MB):Option ((Int × MB) ⊕ (MB)) :=
 if decide (p12 ≥ 0) = true then
  if in64 p12 then
   if (!(getG p12 false p13)) = true then
    some (.inl (IntKind.wrap .i64 (p12 - 1),p13))
   else
    (at? a0 p12).bind fun (x14:GLean) =>
    (mundo_Why_l4 a0 p12 p13 r2 x14 0).bind fun (r24:MB) =>
    some (.inl (IntKind.wrap .i64 (p12 - 1),r24))
  else none
 else
  some (.inr (p13))
noncomputable def mundo_Why_l5 (a0:List GLean) (r2:MB) (p12:Int) (p13:MB):Option (MB) :=
 Iter (fun (w:Int × MB)=>mundo_Why_l5_s a0 r2 w.1 w.2) (p12,p13)
noncomputable def mundo_Why_l6_s (r26:MB):Option ((Unit) ⊕ (Unit)) :=
 if decide (0 < 0) = true then
  none
 else
  some (.inr (()))
noncomputable def mundo_Why_l6 (r26:MB):Option (Unit) :=
 Iter (fun (w:Unit)=>mundo_Why_l6_s r26) ()
noncomputable def mundo_Why (a0:List GLean) (a1:List Bool) (a2:Int):Option ((List Int) × Bool) :=
 (mundo_Right a0).bind fun (r1:Bool) =>
 if (!(r1)) = true then
  some ([],false)
 else
  if ((a1.length:Int) != (a0.length:Int)) = true then
   some ([],false)
  else
   if decide (a2 < 0) = true then
    some ([],false)
   else
    if decide (a2 ≥ (a0.length:Int)) = true then
     some ([],false)
    else
     (mundo_standing a0 a1).bind fun (r2:MB) =>
     if in64 a2 then
      if (!(getG a2 false r2)) = true then
       (mundo_Why_l1 a0 r2 0 []).bind fun (r6:MB) =>
       (mundo_Why_l2 r2 0 r6).bind fun (r11:MB) =>
       if r11.length < 1000000000000 then
        some (keysO (some r11),false)
       else none
      else
       if in64 a2 then
        if 0 < 1000000000000 then
         (mundo_Why_l5 a0 r2 a2 (putG a2 true [])).bind fun (r26:MB) =>
         (mundo_Why_l6 r26).bind fun (r27:Unit) =>
         if r26.length < 1000000000000 then
          some (keysO (some r26),true)
         else none
        else none
       else none
     else none
noncomputable def mallongeref06_SameInts_l1_s (a0:List Int) (a1:List Int) (p1:Int):Option ((Int) ⊕ (Unit ⊕ Unit)) :=
 if decide (p1 < (a0.length:Int)) = true then
  (at? a0 p1).bind fun (x2:Int) =>
  (at? a1 p1).bind fun (x3:Int) =>
  if (x2 != x3) = true then
   some (.inr (.inr (())))
  else
   some (.inl (IntKind.wrap .i64 (p1 + 1)))
 else
  some (.inr (.inl ()))
noncomputable def mallongeref06_SameInts_l1 (a0:List Int) (a1:List Int) (p1:Int):Option (Unit ⊕ Unit) :=
 Iter (fun (w:Int)=>mallongeref06_SameInts_l1_s a0 a1 w) p1
noncomputable def mallongeref06_SameInts (a0:List Int) (a1:List Int):Option (Bool) :=
 if ((a0.length:Int) != (a1.length:Int)) = true then
  some false
 else
  (mallongeref06_SameInts_l1 a0 a1 0).bind fun (r4:Unit ⊕ Unit)=>Sum.elim (fun z5 =>
  some true) (fun z6 =>
  some false) r4
noncomputable def mundo_Standing (a0:List GLean) (a1:List Bool):Option ((List Bool)) :=
 (mundo_Right a0).bind fun (r1:Bool) =>
 if (!(r1)) = true then
  some []
 else
  if ((a1.length:Int) != (a0.length:Int)) = true then
   some []
  else
   if 0 ≤ (a0.length:Int) ∧ (a0.length:Int) ≤ (a0.length:Int) ∧ 1 * (a0.length:Int) ≤ 281474976710656 ∧ (a0.length:Int) ≤ 9223372036854775807 then
    (mundo_standing a0 a1).bind fun (r2:MB) =>
    if keysM r2 ((List.replicate ((a0.length:Int).toNat) (false:Bool)).length) = true then
     some (markM r2 (List.replicate ((a0.length:Int).toNat) (false:Bool)))
    else none
   else none
noncomputable def mallongeref12_SameBools_l1_s (a0:List Bool) (a1:List Bool) (p1:Int):Option ((Int) ⊕ (Unit ⊕ Unit)) :=
 if decide (p1 < (a0.length:Int)) = true then
  (at? a0 p1).bind fun (x2:Bool) =>
  (at? a1 p1).bind fun (x3:Bool) =>
  if (!(x2 == x3)) = true then
   some (.inr (.inr (())))
  else
   some (.inl (IntKind.wrap .i64 (p1 + 1)))
 else
  some (.inr (.inl ()))
noncomputable def mallongeref12_SameBools_l1 (a0:List Bool) (a1:List Bool) (p1:Int):Option (Unit ⊕ Unit) :=
 Iter (fun (w:Int)=>mallongeref12_SameBools_l1_s a0 a1 w) p1
noncomputable def mallongeref12_SameBools (a0:List Bool) (a1:List Bool):Option (Bool) :=
 if ((a0.length:Int) != (a1.length:Int)) = true then
  some false
 else
  (mallongeref12_SameBools_l1 a0 a1 0).bind fun (r4:Unit ⊕ Unit)=>Sum.elim (fun z5 =>
  some true) (fun z6 =>
  some false) r4
noncomputable def mundo_marked_1_s1 (a0:Int) (a1:List GLean):Option (Bool) :=
 if decide (a0 < 0) = true then
  some true
 else
  some (decide (a0 ≥ (a1.length:Int)))
noncomputable def mslices_IndexFunc_int_int_112_s2_l1_s (a0:List Int) (a1:List GLean) (p1:Int):Option ((Int) ⊕ (Unit ⊕ Int)) :=
 if decide (p1 < (a0.length:Int)) = true then
  (at? a0 p1).bind fun (x2:Int) =>
  (mundo_marked_1_s1 x2 a1).bind fun (r3:Bool) =>
  if r3 = true then
   some (.inr (.inr (p1)))
  else
   some (.inl (IntKind.wrap .i64 (p1 + 1)))
 else
  some (.inr (.inl ()))
noncomputable def mslices_IndexFunc_int_int_112_s2_l1 (a0:List Int) (a1:List GLean) (p1:Int):Option (Unit ⊕ Int) :=
 Iter (fun (w:Int)=>mslices_IndexFunc_int_int_112_s2_l1_s a0 a1 w) p1
noncomputable def mslices_IndexFunc_int_int_112_s2 (a0:List Int) (a1:List GLean):Option (Int) :=
 (mslices_IndexFunc_int_int_112_s2_l1 a0 a1 0).bind fun (r5:Unit ⊕ Int)=>Sum.elim (fun z6 =>
 some (-1)) (fun z7 =>
 some z7) r5
noncomputable def mslices_ContainsFunc_int_int_73_s2 (a0:List Int) (a1:List GLean):Option (Bool) :=
 (mslices_IndexFunc_int_int_112_s2 a0 a1).bind fun (r1:Int) =>
 some (decide (r1 ≥ 0))
noncomputable def mslices_Clone_bool_bool (a0:List Bool):Option ((List Bool)):=if a0.length * 1 ≤ 140737488355328 then some a0 else none
noncomputable def mundo_Strike_l1_s (a0:List GLean) (a1:List Bool) (a2:List Int) (p4:Int) (p5:List Bool):Option ((Int × (List Bool)) ⊕ ((List Bool))) :=
 if decide (p4 < (a2.length:Int)) = true then
  (at? a2 p4).bind fun (x6:Int) =>
  if 0 ≤ x6 ∧ x6.toNat < p5.length then
   (p5[x6.toNat]?).bind fun (x7:Bool) =>
   some (.inl (IntKind.wrap .i64 (p4 + 1),p5.set x6.toNat true))
  else none
 else
  some (.inr (p5))
noncomputable def mundo_Strike_l1 (a0:List GLean) (a1:List Bool) (a2:List Int) (p4:Int) (p5:List Bool):Option ((List Bool)) :=
 Iter (fun (w:Int × (List Bool))=>mundo_Strike_l1_s a0 a1 a2 w.1 w.2) (p4,p5)
noncomputable def mundo_Strike_l2_s (p12:Int):Option ((Int) ⊕ (Unit)) :=
 if decide (p12 < ([(none:Option MB)].length:Int)) = true then
  if 0 ≤ p12 ∧ p12.toNat < 1 then
   ([(none:Option MB)][p12.toNat]?).bind fun (x13:Option MB) =>
   some (.inl (IntKind.wrap .i64 (p12 + 1)))
  else none
 else
  some (.inr (()))
noncomputable def mundo_Strike_l2 (p12:Int):Option (Unit) :=
 Iter (fun (w:Int)=>mundo_Strike_l2_s w) p12
noncomputable def mundo_Strike_j3:Option (Unit) :=
 (mundo_Strike_l2 0).bind fun (r14:Unit) =>
 some (())
noncomputable def mundo_Strike_l4_s (r11:MB) (p18:Int) (p19:MB):Option ((Int × MB) ⊕ (MB)) :=
 if decide (p18 < ([some r11].length:Int)) = true then
  if 0 ≤ p18 ∧ p18.toNat < 1 then
   ([some r11][p18.toNat]?).bind fun (x20:Option MB) =>
   some (.inl (IntKind.wrap .i64 (p18 + 1),subO x20 p19))
  else none
 else
  some (.inr (p19))
noncomputable def mundo_Strike_l4 (r11:MB) (p18:Int) (p19:MB):Option (MB) :=
 Iter (fun (w:Int × MB)=>mundo_Strike_l4_s r11 w.1 w.2) (p18,p19)
noncomputable def mundo_Strike_j5 (r10:MB) (r11:MB):Option ((List Int)) :=
 (mundo_Strike_l4 r11 0 r10).bind fun (r22:MB) =>
 if r22.length < 1000000000000 then
  some (keysO (some r22))
 else none
noncomputable def mundo_Strike (a0:List GLean) (a1:List Bool) (a2:List Int):Option ((List Int)) :=
 (mundo_Right a0).bind fun (r1:Bool) =>
 if (!(r1)) = true then
  (mundo_Strike_j3).bind fun (r15:Unit) =>
  some []
 else
  if ((a1.length:Int) != (a0.length:Int)) = true then
   (mundo_Strike_j3).bind fun (r16:Unit) =>
   some []
  else
   (mslices_ContainsFunc_int_int_73_s2 a2 a0).bind fun (r2:Bool) =>
   if r2 = true then
    (mundo_Strike_j3).bind fun (r17:Unit) =>
    some []
   else
    (mslices_Clone_bool_bool a1).bind fun (r3:(List Bool)) =>
    (mundo_Strike_l1 a0 a1 a2 0 r3).bind fun (r9:(List Bool)) =>
    (mundo_standing a0 a1).bind fun (r10:MB) =>
    (mundo_standing a0 r9).bind fun (r11:MB) =>
    (mundo_Strike_j5 r10 r11).bind fun (r24:(List Int)) =>
    some r24
noncomputable def mundo_Restore_l1_s (a0:List GLean) (a1:List Bool) (a2:List Int) (p4:Int) (p5:List Bool):Option ((Int × (List Bool)) ⊕ ((List Bool))) :=
 if decide (p4 < (a2.length:Int)) = true then
  (at? a2 p4).bind fun (x6:Int) =>
  if 0 ≤ x6 ∧ x6.toNat < p5.length then
   (p5[x6.toNat]?).bind fun (x7:Bool) =>
   some (.inl (IntKind.wrap .i64 (p4 + 1),p5.set x6.toNat false))
  else none
 else
  some (.inr (p5))
noncomputable def mundo_Restore_l1 (a0:List GLean) (a1:List Bool) (a2:List Int) (p4:Int) (p5:List Bool):Option ((List Bool)) :=
 Iter (fun (w:Int × (List Bool))=>mundo_Restore_l1_s a0 a1 a2 w.1 w.2) (p4,p5)
noncomputable def mundo_Restore_l2_s (p12:Int):Option ((Int) ⊕ (Unit)) :=
 if decide (p12 < ([(none:Option MB)].length:Int)) = true then
  if 0 ≤ p12 ∧ p12.toNat < 1 then
   ([(none:Option MB)][p12.toNat]?).bind fun (x13:Option MB) =>
   some (.inl (IntKind.wrap .i64 (p12 + 1)))
  else none
 else
  some (.inr (()))
noncomputable def mundo_Restore_l2 (p12:Int):Option (Unit) :=
 Iter (fun (w:Int)=>mundo_Restore_l2_s w) p12
noncomputable def mundo_Restore_j3:Option (Unit) :=
 (mundo_Restore_l2 0).bind fun (r14:Unit) =>
 some (())
noncomputable def mundo_Restore_l4_s (r10:MB) (p18:Int) (p19:MB):Option ((Int × MB) ⊕ (MB)) :=
 if decide (p18 < ([some r10].length:Int)) = true then
  if 0 ≤ p18 ∧ p18.toNat < 1 then
   ([some r10][p18.toNat]?).bind fun (x20:Option MB) =>
   some (.inl (IntKind.wrap .i64 (p18 + 1),subO x20 p19))
  else none
 else
  some (.inr (p19))
noncomputable def mundo_Restore_l4 (r10:MB) (p18:Int) (p19:MB):Option (MB) :=
 Iter (fun (w:Int × MB)=>mundo_Restore_l4_s r10 w.1 w.2) (p18,p19)
noncomputable def mundo_Restore_j5 (r10:MB) (r11:MB):Option ((List Int)) :=
 (mundo_Restore_l4 r10 0 r11).bind fun (r22:MB) =>
 if r22.length < 1000000000000 then
  some (keysO (some r22))
 else none
noncomputable def mundo_Restore (a0:List GLean) (a1:List Bool) (a2:List Int):Option ((List Int)) :=
 (mundo_Right a0).bind fun (r1:Bool) =>
 if (!(r1)) = true then
  (mundo_Restore_j3).bind fun (r15:Unit) =>
  some []
 else
  if ((a1.length:Int) != (a0.length:Int)) = true then
   (mundo_Restore_j3).bind fun (r16:Unit) =>
   some []
  else
   (mslices_ContainsFunc_int_int_73_s2 a2 a0).bind fun (r2:Bool) =>
   if r2 = true then
    (mundo_Restore_j3).bind fun (r17:Unit) =>
    some []
   else
    (mslices_Clone_bool_bool a1).bind fun (r3:(List Bool)) =>
    (mundo_Restore_l1 a0 a1 a2 0 r3).bind fun (r9:(List Bool)) =>
    (mundo_standing a0 a1).bind fun (r10:MB) =>
    (mundo_standing a0 r9).bind fun (r11:MB) =>
    (mundo_Restore_j5 r10 r11).bind fun (r24:(List Int)) =>
    some r24
noncomputable def mslices_Index_int_int_l1_s (a0:List Int) (a1:Int) (p1:Int):Option ((Int) ⊕ (Unit ⊕ Int)) :=
 if decide (p1 < (a0.length:Int)) = true then
  (at? a0 p1).bind fun (x2:Int) =>
  if (a1 == x2) = true then
   some (.inr (.inr (p1)))
  else
   some (.inl (IntKind.wrap .i64 (p1 + 1)))
 else
  some (.inr (.inl ()))
noncomputable def mslices_Index_int_int_l1 (a0:List Int) (a1:Int) (p1:Int):Option (Unit ⊕ Int) :=
 Iter (fun (w:Int)=>mslices_Index_int_int_l1_s a0 a1 w) p1
noncomputable def mslices_Index_int_int (a0:List Int) (a1:Int):Option (Int) :=
 (mslices_Index_int_int_l1 a0 a1 0).bind fun (r4:Unit ⊕ Int)=>Sum.elim (fun z5 =>
 some (-1)) (fun z6 =>
 some z6) r4
noncomputable def mslices_Contains_int_int (a0:List Int) (a1:Int):Option (Bool) :=
 (mslices_Index_int_int a0 a1).bind fun (r1:Int) =>
 some (decide (r1 ≥ 0))
noncomputable def mundo_Proves_l1_s (a0:List GLean) (a1:List Bool) (a3:List Int) (a4:Bool) (p4:Int) (p5:MB):Option ((Int × MB) ⊕ (MB)) :=
 if decide (p4 < (a0.length:Int)) = true then
  if in64 p4 then
   if p5.length < 1000000000000 then
    some (.inl (IntKind.wrap .i64 (p4 + 1),putG p4 true p5))
   else none
  else none
 else
  some (.inr (p5))
noncomputable def mundo_Proves_l1 (a0:List GLean) (a1:List Bool) (a3:List Int) (a4:Bool) (p4:Int) (p5:MB):Option (MB) :=
 Iter (fun (w:Int × MB)=>mundo_Proves_l1_s a0 a1 a3 a4 w.1 w.2) (p4,p5)
noncomputable def mundo_Proves_l2_s (a0:List GLean) (a1:List Bool) (a3:List Int) (a4:Bool) (p8:Int) (p9:MB) (p10:MB):Option ((Int × MB × MB) ⊕ (MB × MB)) :=
 if decide (p8 < (a3.length:Int)) = true then
  (at? a3 p8).bind fun (x11:Int) =>
  if in64 x11 then
   if p9.length < 1000000000000 then
    if in64 x11 then
     some (.inl (IntKind.wrap .i64 (p8 + 1),putG x11 true p9,delG x11 p10))
    else none
   else none
  else none
 else
  some (.inr ((p9,p10)))
noncomputable def mundo_Proves_l2 (a0:List GLean) (a1:List Bool) (a3:List Int) (a4:Bool) (p8:Int) (p9:MB) (p10:MB):Option (MB × MB) :=
 Iter (fun (w:Int × MB × MB)=>mundo_Proves_l2_s a0 a1 a3 a4 w.1 w.2.1 w.2.2) (p8,p9,p10)
noncomputable def mundo_Proves_j3 (a0:List GLean) (a1:List Bool) (a3:List Int) (a4:Bool) (p15:Int) (r14:MB × MB) (x16:Int):Option (Unit ⊕ Unit) :=
 if (!(a4)) = true then
  (at? a1 x16).bind fun (x20:Bool) =>
  if (!(x20)) = true then
   (at? a0 x16).bind fun (x21:GLean) =>
   (mundo_held x21 (some r14.2)).bind fun (r22:Bool) =>
   if r22 = true then
    some (.inr (()))
   else
    some (.inl ())
  else
   some (.inl ())
 else
  some (.inl ())
noncomputable def mundo_Proves_l4_s (a0:List GLean) (a1:List Bool) (a3:List Int) (a4:Bool) (r14:MB × MB) (p15:Int):Option ((Int) ⊕ (Unit ⊕ Unit)) :=
 if decide (p15 < (a3.length:Int)) = true then
  (at? a3 p15).bind fun (x16:Int) =>
  if a4 = true then
   (at? a1 x16).bind fun (x17:Bool) =>
   if x17 = true then
    some (.inr (.inr (())))
   else
    (at? a0 x16).bind fun (x18:GLean) =>
    (mundo_held x18 (some r14.1)).bind fun (r19:Bool) =>
    if (!(r19)) = true then
     some (.inr (.inr (())))
    else
     (mundo_Proves_j3 a0 a1 a3 a4 p15 r14 x16).bind fun (r23:Unit ⊕ Unit)=>Sum.elim (fun z24 =>
     some (.inl (IntKind.wrap .i64 (p15 + 1)))) (fun z25 =>
     some (.inr (.inr (())))) r23
  else
   (mundo_Proves_j3 a0 a1 a3 a4 p15 r14 x16).bind fun (r26:Unit ⊕ Unit)=>Sum.elim (fun z27 =>
   some (.inl (IntKind.wrap .i64 (p15 + 1)))) (fun z28 =>
   some (.inr (.inr (())))) r26
 else
  some (.inr (.inl ()))
noncomputable def mundo_Proves_l4 (a0:List GLean) (a1:List Bool) (a3:List Int) (a4:Bool) (r14:MB × MB) (p15:Int):Option (Unit ⊕ Unit) :=
 Iter (fun (w:Int)=>mundo_Proves_l4_s a0 a1 a3 a4 r14 w) p15
noncomputable def mundo_Proves (a0:List GLean) (a1:List Bool) (a2:Int) (a3:List Int) (a4:Bool):Option (Bool) :=
 (mundo_Right a0).bind fun (r1:Bool) =>
 if (!(r1)) = true then
  some false
 else
  if ((a1.length:Int) != (a0.length:Int)) = true then
   some false
  else
   (mundo_rising a3 (a0.length:Int)).bind fun (r2:Bool) =>
   if (!(r2)) = true then
    some false
   else
    (mslices_Contains_int_int a3 a2).bind fun (r3:Bool) =>
    if (!(r3)) = true then
     some false
    else
     (mundo_Proves_l1 a0 a1 a3 a4 0 []).bind fun (r7:MB) =>
     (mundo_Proves_l2 a0 a1 a3 a4 0 [] r7).bind fun (r14:MB × MB) =>
     (mundo_Proves_l4 a0 a1 a3 a4 r14 0).bind fun (r29:Unit ⊕ Unit)=>Sum.elim (fun z30 =>
     some true) (fun z31 =>
     some false) r29
noncomputable def mallongelaw45_sane:Option (Bool) :=
 (mallongelaw45_example).bind fun (r1:(List GLean)) =>
 if 0 ≤ 6 ∧ 6 ≤ 6 ∧ 1 * 6 ≤ 281474976710656 ∧ 6 ≤ 9223372036854775807 then
  (mundo_Why r1 [false,true,false,false,false,false] 4).bind fun (r2:(List Int) × Bool) =>
  (mundo_Why r1 [false,true,true,false,false,false] 4).bind fun (r3:(List Int) × Bool) =>
  (mundo_Right r1).bind fun (r4:Bool) =>
  if (!(r4)) = true then
   some false
  else
   if (!(r2.2)) = true then
    some false
   else
    if r3.2 = true then
     some false
    else
     (mallongeref06_SameInts r2.1 [2,3,4]).bind fun (r5:Bool) =>
     if (!(r5)) = true then
      some false
     else
      (mallongeref06_SameInts r3.1 [1,2,3,4,5]).bind fun (r6:Bool) =>
      if (!(r6)) = true then
       some false
      else
       (mundo_Standing r1 (List.replicate 6 (false:Bool))).bind fun (r7:(List Bool)) =>
       (mallongeref12_SameBools r7 [true,true,true,true,true,true]).bind fun (r8:Bool) =>
       if r8 = true then
        (mundo_Strike r1 (List.replicate 6 (false:Bool)) [1]).bind fun (r9:(List Int)) =>
        (mallongeref06_SameInts r9 [1,5]).bind fun (r10:Bool) =>
        if r10 = true then
         (mundo_Strike r1 (List.replicate 6 (false:Bool)) [1,2]).bind fun (r11:(List Int)) =>
         (mallongeref06_SameInts r11 [1,2,3,4,5]).bind fun (r12:Bool) =>
         if r12 = true then
          (mundo_Restore r1 [false,true,true,false,false,false] [2]).bind fun (r13:(List Int)) =>
          (mallongeref06_SameInts r13 [2,3,4]).bind fun (r14:Bool) =>
          if r14 = true then
           (mundo_Proves r1 [false,true,false,false,false,false] 4 r2.1 true).bind fun (r15:Bool) =>
           if r15 = true then
            (mundo_Proves r1 [false,true,false,false,false,false] 4 [3,4] true).bind fun (r16:Bool) =>
            some (!(r16))
           else
            some false
          else
           some false
         else
          some false
        else
         some false
       else
        some false
 else none
noncomputable def mallongeref45_Few_l1_s (a0:List GLean) (p1:Int) (p3:Int):Option ((Int) ⊕ (Unit ⊕ Unit)) :=
 (at? a0 p1).bind fun (x4:GLean) =>
 if decide (p3 < (x4.Supports.length:Int)) = true then
  (at? a0 p1).bind fun (x5:GLean) =>
  (at? x5.Supports p3).bind fun (x6:List Int) =>
  if decide ((x6.length:Int) > 25) = true then
   some (.inr (.inr (())))
  else
   some (.inl (IntKind.wrap .i64 (p3 + 1)))
 else
  some (.inr (.inl ()))
noncomputable def mallongeref45_Few_l1 (a0:List GLean) (p1:Int) (p3:Int):Option (Unit ⊕ Unit) :=
 Iter (fun (w:Int)=>mallongeref45_Few_l1_s a0 p1 w) p3
noncomputable def mallongeref45_Few_l2_s (a0:List GLean) (p1:Int):Option ((Int) ⊕ (Unit ⊕ Unit)) :=
 if decide (p1 < (a0.length:Int)) = true then
  if decide (p1 < 60) = true then
   (at? a0 p1).bind fun (x2:GLean) =>
   if decide ((x2.Supports.length:Int) > 25) = true then
    some (.inr (.inr (())))
   else
    (mallongeref45_Few_l1 a0 p1 0).bind fun (r7:Unit ⊕ Unit)=>Sum.elim (fun z8 =>
    some (.inl (IntKind.wrap .i64 (p1 + 1)))) (fun z9 =>
    some (.inr (.inr (())))) r7
  else
   some (.inr (.inl ()))
 else
  some (.inr (.inl ()))
noncomputable def mallongeref45_Few_l2 (a0:List GLean) (p1:Int):Option (Unit ⊕ Unit) :=
 Iter (fun (w:Int)=>mallongeref45_Few_l2_s a0 w) p1
noncomputable def mallongeref45_Few (a0:List GLean):Option (Bool) :=
 (mallongeref45_Few_l2 a0 0).bind fun (r10:Unit ⊕ Unit)=>Sum.elim (fun z11 =>
 if decide ((a0.length:Int) ≤ 40) = true then
   some true
  else
   if decide ((a0.length:Int) > 300) = true then
    some (decide ((a0.length:Int) < 600))
   else
    some false) (fun z12 =>
 some false) r10
noncomputable def mallongeref45_All_l1_s (a0:List Int) (a1:List Bool) (p1:Int):Option ((Int) ⊕ (Unit ⊕ Unit)) :=
 if decide (p1 < (a0.length:Int)) = true then
  (at? a0 p1).bind fun (x2:Int) =>
  (at? a1 x2).bind fun (x3:Bool) =>
  if (!(x3)) = true then
   some (.inr (.inr (())))
  else
   some (.inl (IntKind.wrap .i64 (p1 + 1)))
 else
  some (.inr (.inl ()))
noncomputable def mallongeref45_All_l1 (a0:List Int) (a1:List Bool) (p1:Int):Option (Unit ⊕ Unit) :=
 Iter (fun (w:Int)=>mallongeref45_All_l1_s a0 a1 w) p1
noncomputable def mallongeref45_All (a0:List Int) (a1:List Bool):Option (Bool) :=
 (mallongeref45_All_l1 a0 a1 0).bind fun (r4:Unit ⊕ Unit)=>Sum.elim (fun z5 =>
 some true) (fun z6 =>
 some false) r4
noncomputable def mallongeref45_Held_l1_s (a0:GLean) (a1:List Bool) (p1:Int):Option ((Int) ⊕ (Unit ⊕ Unit)) :=
 if decide (p1 < (a0.Supports.length:Int)) = true then
  (at? a0.Supports p1).bind fun (x2:List Int) =>
  (mallongeref45_All x2 a1).bind fun (r3:Bool) =>
  if r3 = true then
   some (.inr (.inr (())))
  else
   some (.inl (IntKind.wrap .i64 (p1 + 1)))
 else
  some (.inr (.inl ()))
noncomputable def mallongeref45_Held_l1 (a0:GLean) (a1:List Bool) (p1:Int):Option (Unit ⊕ Unit) :=
 Iter (fun (w:Int)=>mallongeref45_Held_l1_s a0 a1 w) p1
noncomputable def mallongeref45_Held (a0:GLean) (a1:List Bool):Option (Bool) :=
 (mallongeref45_Held_l1 a0 a1 0).bind fun (r4:Unit ⊕ Unit)=>Sum.elim (fun z5 =>
 some ((a0.Supports.length:Int) == 0)) (fun z6 =>
 some true) r4
noncomputable def mallongelaw45_even_l1_s (a0:List GLean) (a1:List Bool) (a2:List Bool) (p1:Int):Option ((Int) ⊕ (Unit ⊕ Unit)) :=
 if decide (p1 < (a0.length:Int)) = true then
  (at? a2 p1).bind fun (x2:Bool) =>
  (at? a1 p1).bind fun (x3:Bool) =>
  if (!(x3)) = true then
   (at? a0 p1).bind fun (x4:GLean) =>
   (mallongeref45_Held x4 a2).bind fun (r5:Bool) =>
   if (!(x2 == r5)) = true then
    some (.inr (.inr (())))
   else
    some (.inl (IntKind.wrap .i64 (p1 + 1)))
  else
   if (!(x2 == false)) = true then
    some (.inr (.inr (())))
   else
    some (.inl (IntKind.wrap .i64 (p1 + 1)))
 else
  some (.inr (.inl ()))
noncomputable def mallongelaw45_even_l1 (a0:List GLean) (a1:List Bool) (a2:List Bool) (p1:Int):Option (Unit ⊕ Unit) :=
 Iter (fun (w:Int)=>mallongelaw45_even_l1_s a0 a1 a2 w) p1
noncomputable def mallongelaw45_even (a0:List GLean) (a1:List Bool) (a2:List Bool):Option (Bool) :=
 (mallongelaw45_even_l1 a0 a1 a2 0).bind fun (r6:Unit ⊕ Unit)=>Sum.elim (fun z7 =>
 some true) (fun z8 =>
 some false) r6
noncomputable def mallongelaw45_UndoUnique (a0:List GLean) (a1:List Bool) (a2:List Bool):Option (Bool) :=
 (mallongelaw45_sane).bind fun (r1:Bool) =>
 (mallongeref45_Few a0).bind fun (r2:Bool) =>
 if (!(r2)) = true then
  some r1
 else
  (mundo_Right a0).bind fun (r3:Bool) =>
  if (!(r3)) = true then
   some r1
  else
   if ((a1.length:Int) != (a0.length:Int)) = true then
    some r1
   else
    (mundo_Standing a0 a1).bind fun (r4:(List Bool)) =>
    if ((r4.length:Int) != (a0.length:Int)) = true then
     some false
    else
     (mallongelaw45_even a0 a1 r4).bind fun (r5:Bool) =>
     if (!(r5)) = true then
      some false
     else
      if ((a2.length:Int) != (a0.length:Int)) = true then
       some r1
      else
       if r1 = true then
        (mallongelaw45_even a0 a1 a2).bind fun (r6:Bool) =>
        if (!(r6)) = true then
         some true
        else
         (mallongeref12_SameBools r4 a2).bind fun (r7:Bool) =>
         some r7
       else
        some false
noncomputable def mallongeref45_Rising_l1_s (a0:List Int) (a1:Int) (p1:Int):Option ((Int) ⊕ (Unit ⊕ Unit)) :=
 if decide (p1 < (a0.length:Int)) = true then
  (at? a0 p1).bind fun (x2:Int) =>
  if decide (x2 < 0) = true then
   some (.inr (.inr (())))
  else
   (at? a0 p1).bind fun (x3:Int) =>
   if decide (x3 ≥ a1) = true then
    some (.inr (.inr (())))
   else
    if decide (p1 > 0) = true then
     (at? a0 p1).bind fun (x4:Int) =>
     (at? a0 (IntKind.wrap .i64 (p1 - 1))).bind fun (x5:Int) =>
     if decide (x4 ≤ x5) = true then
      some (.inr (.inr (())))
     else
      some (.inl (IntKind.wrap .i64 (p1 + 1)))
    else
     some (.inl (IntKind.wrap .i64 (p1 + 1)))
 else
  some (.inr (.inl ()))
noncomputable def mallongeref45_Rising_l1 (a0:List Int) (a1:Int) (p1:Int):Option (Unit ⊕ Unit) :=
 Iter (fun (w:Int)=>mallongeref45_Rising_l1_s a0 a1 w) p1
noncomputable def mallongeref45_Rising (a0:List Int) (a1:Int):Option (Bool) :=
 (mallongeref45_Rising_l1 a0 a1 0).bind fun (r6:Unit ⊕ Unit)=>Sum.elim (fun z7 =>
 some true) (fun z8 =>
 some false) r6
noncomputable def mallongeref45_Some_l1_s (a0:List Int) (a1:List Bool) (p1:Int):Option ((Int) ⊕ (Unit ⊕ Unit)) :=
 if decide (p1 < (a0.length:Int)) = true then
  (at? a0 p1).bind fun (x2:Int) =>
  (at? a1 x2).bind fun (x3:Bool) =>
  if x3 = true then
   some (.inr (.inr (())))
  else
   some (.inl (IntKind.wrap .i64 (p1 + 1)))
 else
  some (.inr (.inl ()))
noncomputable def mallongeref45_Some_l1 (a0:List Int) (a1:List Bool) (p1:Int):Option (Unit ⊕ Unit) :=
 Iter (fun (w:Int)=>mallongeref45_Some_l1_s a0 a1 w) p1
noncomputable def mallongeref45_Some (a0:List Int) (a1:List Bool):Option (Bool) :=
 (mallongeref45_Some_l1 a0 a1 0).bind fun (r4:Unit ⊕ Unit)=>Sum.elim (fun z5 =>
 some false) (fun z6 =>
 some true) r4
noncomputable def mallongelaw45_UndoFalls_l1_s (a0:List GLean) (a1:List Bool) (a2:List Int) (r1:Bool) (p4:Int) (p5:List Bool):Option ((Int × (List Bool)) ⊕ (((List Bool)) ⊕ Bool)) :=
 if decide (p4 < (a2.length:Int)) = true then
  (at? a2 p4).bind fun (x6:Int) =>
  if decide (x6 < 0) = true then
   if r1 = true then
    (mundo_Strike a0 a1 a2).bind fun (r8:(List Int)) =>
    some (.inr (.inr ((r8.length:Int) == 0)))
   else
    some (.inr (.inr (false)))
  else
   (at? a2 p4).bind fun (x7:Int) =>
   if decide (x7 ≥ (a0.length:Int)) = true then
    if r1 = true then
     (mundo_Strike a0 a1 a2).bind fun (r9:(List Int)) =>
     some (.inr (.inr ((r9.length:Int) == 0)))
    else
     some (.inr (.inr (false)))
   else
    (at? a2 p4).bind fun (x10:Int) =>
    if 0 ≤ x10 ∧ x10.toNat < p5.length then
     (p5[x10.toNat]?).bind fun (x11:Bool) =>
     some (.inl (IntKind.wrap .i64 (p4 + 1),p5.set x10.toNat true))
    else none
 else
  some (.inr (.inl p5))
noncomputable def mallongelaw45_UndoFalls_l1 (a0:List GLean) (a1:List Bool) (a2:List Int) (r1:Bool) (p4:Int) (p5:List Bool):Option (((List Bool)) ⊕ Bool) :=
 Iter (fun (w:Int × (List Bool))=>mallongelaw45_UndoFalls_l1_s a0 a1 a2 r1 w.1 w.2) (p4,p5)
noncomputable def mallongelaw45_UndoFalls_l2_s (a0:List GLean) (r1:Bool) (r17:(List Bool)) (r18:(List Bool)) (r19:(List Int)) (z15:(List Bool)) (p21:Int) (p22:List Bool):Option ((Int × (List Bool)) ⊕ ((List Bool))) :=
 if decide (p21 < (r19.length:Int)) = true then
  (at? r19 p21).bind fun (x23:Int) =>
  if 0 ≤ x23 ∧ x23.toNat < p22.length then
   (p22[x23.toNat]?).bind fun (x24:Bool) =>
   some (.inl (IntKind.wrap .i64 (p21 + 1),p22.set x23.toNat true))
  else none
 else
  some (.inr (p22))
noncomputable def mallongelaw45_UndoFalls_l2 (a0:List GLean) (r1:Bool) (r17:(List Bool)) (r18:(List Bool)) (r19:(List Int)) (z15:(List Bool)) (p21:Int) (p22:List Bool):Option ((List Bool)) :=
 Iter (fun (w:Int × (List Bool))=>mallongelaw45_UndoFalls_l2_s a0 r1 r17 r18 r19 z15 w.1 w.2) (p21,p22)
noncomputable def mallongelaw45_UndoFalls_l3_s (a0:List GLean) (p27:Int) (r1:Bool) (r17:(List Bool)) (r18:(List Bool)) (r26:(List Bool)) (z15:(List Bool)) (p37:Int):Option ((Int) ⊕ (Unit ⊕ Unit)) :=
 (at? a0 p27).bind fun (x38:GLean) =>
 if decide (p37 < (x38.Supports.length:Int)) = true then
  (at? a0 p27).bind fun (x39:GLean) =>
  (at? x39.Supports p37).bind fun (x40:List Int) =>
  (mallongeref45_All x40 r17).bind fun (r41:Bool) =>
  if r41 = true then
   (at? a0 p27).bind fun (x42:GLean) =>
   (at? x42.Supports p37).bind fun (x43:List Int) =>
   (mallongeref45_Some x43 r26).bind fun (r44:Bool) =>
   if (!(r44)) = true then
    some (.inr (.inr (())))
   else
    some (.inl (IntKind.wrap .i64 (p37 + 1)))
  else
   some (.inl (IntKind.wrap .i64 (p37 + 1)))
 else
  some (.inr (.inl ()))
noncomputable def mallongelaw45_UndoFalls_l3 (a0:List GLean) (p27:Int) (r1:Bool) (r17:(List Bool)) (r18:(List Bool)) (r26:(List Bool)) (z15:(List Bool)) (p37:Int):Option (Unit ⊕ Unit) :=
 Iter (fun (w:Int)=>mallongelaw45_UndoFalls_l3_s a0 p27 r1 r17 r18 r26 z15 w) p37
noncomputable def mallongelaw45_UndoFalls_j4 (a0:List GLean) (p27:Int) (r1:Bool) (r17:(List Bool)) (r18:(List Bool)) (r26:(List Bool)) (z15:(List Bool)):Option (Unit ⊕ Unit ⊕ Unit) :=
 if 0 ≤ p27 ∧ p27.toNat < r26.length then
  (r26[p27.toNat]?).bind fun (x35:Bool) =>
  if (!(x35)) = true then
   some (.inl ())
  else
   (at? z15 p27).bind fun (x36:Bool) =>
   if x36 = true then
    some (.inl ())
   else
    (mallongelaw45_UndoFalls_l3 a0 p27 r1 r17 r18 r26 z15 0).bind fun (r45:Unit ⊕ Unit)=>Sum.elim (fun z46 =>
    (at? a0 p27).bind fun (x48:GLean) =>
     if ((x48.Supports.length:Int) == 0) = true then
      some (.inr (.inr (())))
     else
      some (.inr (.inl ()))) (fun z47 =>
    some (.inr (.inr (())))) r45
 else none
noncomputable def mallongelaw45_UndoFalls_l5_s (a0:List GLean) (r1:Bool) (r17:(List Bool)) (r18:(List Bool)) (r26:(List Bool)) (z15:(List Bool)) (p27:Int):Option ((Int) ⊕ (Unit ⊕ Unit)) :=
 if decide (p27 < (a0.length:Int)) = true then
  if 0 ≤ p27 ∧ p27.toNat < r26.length then
   (r26[p27.toNat]?).bind fun (x28:Bool) =>
   (at? r17 p27).bind fun (x29:Bool) =>
   if x29 = true then
    (at? r18 p27).bind fun (x30:Bool) =>
    if (!(x28 == (!(x30)))) = true then
     some (.inr (.inr (())))
    else
     (at? r18 p27).bind fun (x31:Bool) =>
     if x31 = true then
      (at? r17 p27).bind fun (x32:Bool) =>
      if (!(x32)) = true then
       some (.inr (.inr (())))
      else
       (mallongelaw45_UndoFalls_j4 a0 p27 r1 r17 r18 r26 z15).bind fun (r49:Unit ⊕ Unit ⊕ Unit)=>Sum.elim (fun z50 =>
       some (.inl (IntKind.wrap .i64 (p27 + 1)))) (fun y0=>Sum.elim (fun z51 =>
       some (.inl (IntKind.wrap .i64 (p27 + 1)))) (fun z52 =>
       some (.inr (.inr (())))) y0) r49
     else
      (mallongelaw45_UndoFalls_j4 a0 p27 r1 r17 r18 r26 z15).bind fun (r53:Unit ⊕ Unit ⊕ Unit)=>Sum.elim (fun z54 =>
      some (.inl (IntKind.wrap .i64 (p27 + 1)))) (fun y0=>Sum.elim (fun z55 =>
      some (.inl (IntKind.wrap .i64 (p27 + 1)))) (fun z56 =>
      some (.inr (.inr (())))) y0) r53
   else
    if (!(x28 == false)) = true then
     some (.inr (.inr (())))
    else
     (at? r18 p27).bind fun (x33:Bool) =>
     if x33 = true then
      (at? r17 p27).bind fun (x34:Bool) =>
      if (!(x34)) = true then
       some (.inr (.inr (())))
      else
       (mallongelaw45_UndoFalls_j4 a0 p27 r1 r17 r18 r26 z15).bind fun (r57:Unit ⊕ Unit ⊕ Unit)=>Sum.elim (fun z58 =>
       some (.inl (IntKind.wrap .i64 (p27 + 1)))) (fun y0=>Sum.elim (fun z59 =>
       some (.inl (IntKind.wrap .i64 (p27 + 1)))) (fun z60 =>
       some (.inr (.inr (())))) y0) r57
     else
      (mallongelaw45_UndoFalls_j4 a0 p27 r1 r17 r18 r26 z15).bind fun (r61:Unit ⊕ Unit ⊕ Unit)=>Sum.elim (fun z62 =>
      some (.inl (IntKind.wrap .i64 (p27 + 1)))) (fun y0=>Sum.elim (fun z63 =>
      some (.inl (IntKind.wrap .i64 (p27 + 1)))) (fun z64 =>
      some (.inr (.inr (())))) y0) r61
  else none
 else
  some (.inr (.inl ()))
noncomputable def mallongelaw45_UndoFalls_l5 (a0:List GLean) (r1:Bool) (r17:(List Bool)) (r18:(List Bool)) (r26:(List Bool)) (z15:(List Bool)) (p27:Int):Option (Unit ⊕ Unit) :=
 Iter (fun (w:Int)=>mallongelaw45_UndoFalls_l5_s a0 r1 r17 r18 r26 z15 w) p27
noncomputable def mallongelaw45_UndoFalls (a0:List GLean) (a1:List Bool) (a2:List Int):Option (Bool) :=
 (mallongelaw45_sane).bind fun (r1:Bool) =>
 (mallongeref45_Few a0).bind fun (r2:Bool) =>
 if (!(r2)) = true then
  some r1
 else
  (mundo_Right a0).bind fun (r3:Bool) =>
  if (!(r3)) = true then
   some r1
  else
   if ((a1.length:Int) != (a0.length:Int)) = true then
    some r1
   else
    if decide ((a2.length:Int) > 60) = true then
     some r1
    else
     if (0 + a1.length) * 1 ≤ 140737488355328 then
      (mallongelaw45_UndoFalls_l1 a0 a1 a2 r1 0 (([]:List Bool) ++ a1)).bind fun (r14:((List Bool)) ⊕ Bool)=>Sum.elim (fun z15 =>
      (mundo_Standing a0 a1).bind fun (r17:(List Bool)) =>
       (mundo_Standing a0 z15).bind fun (r18:(List Bool)) =>
       (mundo_Strike a0 a1 a2).bind fun (r19:(List Int)) =>
       if ((r17.length:Int) != (a0.length:Int)) = true then
        some false
       else
        if ((r18.length:Int) != (a0.length:Int)) = true then
         some false
        else
         (mallongeref45_Rising r19 (a0.length:Int)).bind fun (r20:Bool) =>
         if (!(r20)) = true then
          some false
         else
          if 0 ≤ (a0.length:Int) ∧ (a0.length:Int) ≤ (a0.length:Int) ∧ 1 * (a0.length:Int) ≤ 281474976710656 ∧ (a0.length:Int) ≤ 9223372036854775807 then
           (mallongelaw45_UndoFalls_l2 a0 r1 r17 r18 r19 z15 0 (List.replicate ((a0.length:Int).toNat) (false:Bool))).bind fun (r26:(List Bool)) =>
           (mallongelaw45_UndoFalls_l5 a0 r1 r17 r18 r26 z15 0).bind fun (r65:Unit ⊕ Unit)=>Sum.elim (fun z66 =>
           some r1) (fun z67 =>
           some false) r65
          else none) (fun z16 =>
      some z16) r14
     else none
noncomputable def mallongelaw45_UndoBack_l1_s (a0:List GLean) (a1:List Bool) (a2:List Int) (r1:Bool) (p4:Int) (p5:List Bool):Option ((Int × (List Bool)) ⊕ (((List Bool)) ⊕ Unit)) :=
 if decide (p4 < (a2.length:Int)) = true then
  (at? a2 p4).bind fun (x6:Int) =>
  if decide (x6 < 0) = true then
   some (.inr (.inr (())))
  else
   (at? a2 p4).bind fun (x7:Int) =>
   if decide (x7 ≥ (a0.length:Int)) = true then
    some (.inr (.inr (())))
   else
    (at? a2 p4).bind fun (x8:Int) =>
    (at? a1 x8).bind fun (x9:Bool) =>
    if x9 = true then
     some (.inr (.inr (())))
    else
     (at? a2 p4).bind fun (x10:Int) =>
     if 0 ≤ x10 ∧ x10.toNat < p5.length then
      (p5[x10.toNat]?).bind fun (x11:Bool) =>
      some (.inl (IntKind.wrap .i64 (p4 + 1),p5.set x10.toNat true))
     else none
 else
  some (.inr (.inl p5))
noncomputable def mallongelaw45_UndoBack_l1 (a0:List GLean) (a1:List Bool) (a2:List Int) (r1:Bool) (p4:Int) (p5:List Bool):Option (((List Bool)) ⊕ Unit) :=
 Iter (fun (w:Int × (List Bool))=>mallongelaw45_UndoBack_l1_s a0 a1 a2 r1 w.1 w.2) (p4,p5)
noncomputable def mallongelaw45_UndoBack (a0:List GLean) (a1:List Bool) (a2:List Int):Option (Bool) :=
 (mallongelaw45_sane).bind fun (r1:Bool) =>
 (mallongeref45_Few a0).bind fun (r2:Bool) =>
 if (!(r2)) = true then
  some r1
 else
  (mundo_Right a0).bind fun (r3:Bool) =>
  if (!(r3)) = true then
   some r1
  else
   if ((a1.length:Int) != (a0.length:Int)) = true then
    some r1
   else
    if decide ((a2.length:Int) > 60) = true then
     some r1
    else
     if (0 + a1.length) * 1 ≤ 140737488355328 then
      (mallongelaw45_UndoBack_l1 a0 a1 a2 r1 0 (([]:List Bool) ++ a1)).bind fun (r13:((List Bool)) ⊕ Unit)=>Sum.elim (fun z14 =>
      if r1 = true then
        (mundo_Strike a0 a1 a2).bind fun (r16:(List Int)) =>
        (mundo_Restore a0 z14 a2).bind fun (r17:(List Int)) =>
        (mallongeref06_SameInts r16 r17).bind fun (r18:Bool) =>
        some r18
       else
        some false) (fun z15 =>
      some r1) r13
     else none
noncomputable def mallongelaw45_UndoProves (a0:List GLean) (a1:List Bool) (a2:Int) (a3:List Int):Option (Bool) :=
 (mallongelaw45_sane).bind fun (r1:Bool) =>
 (mallongeref45_Few a0).bind fun (r2:Bool) =>
 if (!(r2)) = true then
  some r1
 else
  (mundo_Right a0).bind fun (r3:Bool) =>
  if (!(r3)) = true then
   some r1
  else
   if ((a1.length:Int) != (a0.length:Int)) = true then
    some r1
   else
    if decide ((a3.length:Int) > 60) = true then
     some r1
    else
     if decide (a2 < 0) = true then
      some r1
     else
      if decide (a2 ≥ (a0.length:Int)) = true then
       some r1
      else
       (mundo_Standing a0 a1).bind fun (r4:(List Bool)) =>
       (mundo_Why a0 a1 a2).bind fun (r5:(List Int) × Bool) =>
       if ((r4.length:Int) != (a0.length:Int)) = true then
        some false
       else
        (at? r4 a2).bind fun (x6:Bool) =>
        if (!(r5.2 == x6)) = true then
         some false
        else
         (mundo_Proves a0 a1 a2 r5.1 r5.2).bind fun (r7:Bool) =>
         if (!(r7)) = true then
          some false
         else
          if r1 = true then
           (mundo_Proves a0 a1 a2 r5.1 (!(r5.2))).bind fun (r8:Bool) =>
           if (!(r8)) = true then
            (mundo_Proves a0 a1 a2 a3 (!(r5.2))).bind fun (r9:Bool) =>
            some (!(r9))
           else
            some false
          else
           some false
noncomputable def mgraph_right_l1_s (a0:Int) (a1:List GArr2I) (p1:Int):Option ((Int) ⊕ (Unit ⊕ Unit)) :=
 if decide (p1 < (a1.length:Int)) = true then
  (at? a1 p1).bind fun (x2:GArr2I) =>
  if decide (x2.e0 < 0) = true then
   some (.inr (.inr (())))
  else
   if decide (x2.e0 ≥ a0) = true then
    some (.inr (.inr (())))
   else
    if decide (x2.e1 < 0) = true then
     some (.inr (.inr (())))
    else
     if decide (x2.e1 ≥ a0) = true then
      some (.inr (.inr (())))
     else
      some (.inl (IntKind.wrap .i64 (p1 + 1)))
 else
  some (.inr (.inl ()))
noncomputable def mgraph_right_l1 (a0:Int) (a1:List GArr2I) (p1:Int):Option (Unit ⊕ Unit) :=
 Iter (fun (w:Int)=>mgraph_right_l1_s a0 a1 w) p1
noncomputable def mgraph_right (a0:Int) (a1:List GArr2I):Option (Bool) :=
 if decide (a0 < 0) = true then
  some false
 else
  if decide (a0 > 300) = true then
   some false
  else
   if decide ((a1.length:Int) > 2000) = true then
    some false
   else
    (mgraph_right_l1 a0 a1 0).bind fun (r3:Unit ⊕ Unit)=>Sum.elim (fun z4 =>
    some true) (fun z5 =>
    some false) r3
noncomputable def mgraph_next (a0:Int) (a1:List GArr2I):Option ((List (List Int))):=if okE a0 (a1.map fun e=>(e.e0,e.e1)) = true then some (nextL a0.toNat (a1.map fun e=>(e.e0,e.e1))) else none
noncomputable def mgraph_reach_l1_s (a0:List (List Int)) (x5:List Int) (p6:Int) (p7:List Bool) (p8:List Int):Option ((Int × (List Bool) × (List Int)) ⊕ ((List Bool) × (List Int))) :=
 if decide (p6 < (x5.length:Int)) = true then
  (at? x5 p6).bind fun (x9:Int) =>
  if 0 ≤ x9 ∧ x9.toNat < p7.length then
   (p7[x9.toNat]?).bind fun (x10:Bool) =>
   if (!(x10)) = true then
    if 0 ≤ x9 ∧ x9.toNat < p7.length then
     (p7[x9.toNat]?).bind fun (x11:Bool) =>
     if (p8.length + 1) * 8 ≤ 140737488355328 then
      some (.inl (IntKind.wrap .i64 (p6 + 1),p7.set x9.toNat true,p8 ++ [x9]))
     else none
    else none
   else
    some (.inl (IntKind.wrap .i64 (p6 + 1),p7,p8))
  else none
 else
  some (.inr ((p7,p8)))
noncomputable def mgraph_reach_l1 (a0:List (List Int)) (x5:List Int) (p6:Int) (p7:List Bool) (p8:List Int):Option ((List Bool) × (List Int)) :=
 Iter (fun (w:Int × (List Bool) × (List Int))=>mgraph_reach_l1_s a0 x5 w.1 w.2.1 w.2.2) (p6,p7,p8)
noncomputable def mgraph_reach_l2_s (a0:List (List Int)) (p2:List Bool) (p3:List Int):Option (((List Bool) × (List Int)) ⊕ ((List Bool))) :=
 if decide ((p3.length:Int) > 0) = true then
  if 0 ≤ 0 ∧ 0 < p3.length then
   (p3[0]?).bind fun (x4:Int) =>
   if sliceOk p3.length 1 (p3.length:Int) then
    (at? a0 x4).bind fun (x5:List Int) =>
    (mgraph_reach_l1 a0 x5 0 p2 (sliceL p3 1 (p3.length:Int))).bind fun (r14:(List Bool) × (List Int)) =>
    some (.inl (r14.1,r14.2))
   else none
  else none
 else
  some (.inr (p2))
noncomputable def mgraph_reach_l2 (a0:List (List Int)) (p2:List Bool) (p3:List Int):Option ((List Bool)) :=
 Iter (fun (w:(List Bool) × (List Int))=>mgraph_reach_l2_s a0 w.1 w.2) (p2,p3)
noncomputable def mgraph_reach (a0:List (List Int)) (a1:Int):Option ((List Bool)) :=
 if 0 ≤ (a0.length:Int) ∧ (a0.length:Int) ≤ (a0.length:Int) ∧ 1 * (a0.length:Int) ≤ 281474976710656 ∧ (a0.length:Int) ≤ 9223372036854775807 then
  if 0 ≤ a1 ∧ a1.toNat < (List.replicate ((a0.length:Int).toNat) (false:Bool)).length then
   ((List.replicate ((a0.length:Int).toNat) (false:Bool))[a1.toNat]?).bind fun (x1:Bool) =>
   (mgraph_reach_l2 a0 ((List.replicate ((a0.length:Int).toNat) (false:Bool)).set a1.toNat true) [a1]).bind fun (r16:(List Bool)) =>
   some r16
  else none
 else none
noncomputable def mgraph_Reach (a0:Int) (a1:List GArr2I) (a2:Int):Option ((List Bool)) :=
 (mgraph_right a0 a1).bind fun (r1:Bool) =>
 if (!(r1)) = true then
  some []
 else
  if decide (a2 < 0) = true then
   some []
  else
   if decide (a2 ≥ a0) = true then
    some []
   else
    (mgraph_next a0 a1).bind fun (r2:(List (List Int))) =>
    (mgraph_reach r2 a2).bind fun (r3:(List Bool)) =>
    some r3
noncomputable def mgraph_steps_l1_s (a0:List (List Int)) (a1:Int) (x4:Int) (x5:List Int) (p6:Int) (p7:List Int) (p8:List Int):Option ((Int × (List Int) × (List Int)) ⊕ ((List Int) × (List Int))) :=
 if decide (p6 < (x5.length:Int)) = true then
  (at? x5 p6).bind fun (x9:Int) =>
  if decide (x9 > a1) = true then
   if 0 ≤ x9 ∧ x9.toNat < p8.length then
    (p8[x9.toNat]?).bind fun (x10:Int) =>
    if (x10 == 0) = true then
     if 0 ≤ x4 ∧ x4.toNat < p8.length then
      (p8[x4.toNat]?).bind fun (x11:Int) =>
      if 0 ≤ x9 ∧ x9.toNat < p8.length then
       (p8[x9.toNat]?).bind fun (x12:Int) =>
       if (p7.length + 1) * 8 ≤ 140737488355328 then
        some (.inl (IntKind.wrap .i64 (p6 + 1),p7 ++ [x9],p8.set x9.toNat (IntKind.wrap .i64 (x11 + 1))))
       else none
      else none
     else none
    else
     some (.inl (IntKind.wrap .i64 (p6 + 1),p7,p8))
   else none
  else
   some (.inl (IntKind.wrap .i64 (p6 + 1),p7,p8))
 else
  some (.inr ((p7,p8)))
noncomputable def mgraph_steps_l1 (a0:List (List Int)) (a1:Int) (x4:Int) (x5:List Int) (p6:Int) (p7:List Int) (p8:List Int):Option ((List Int) × (List Int)) :=
 Iter (fun (w:Int × (List Int) × (List Int))=>mgraph_steps_l1_s a0 a1 x4 x5 w.1 w.2.1 w.2.2) (p6,p7,p8)
noncomputable def mgraph_steps_l2_s (a0:List (List Int)) (a1:Int) (p2:List Int) (p3:List Int):Option (((List Int) × (List Int)) ⊕ ((List Int))) :=
 if decide ((p2.length:Int) > 0) = true then
  if 0 ≤ 0 ∧ 0 < p2.length then
   (p2[0]?).bind fun (x4:Int) =>
   if sliceOk p2.length 1 (p2.length:Int) then
    (at? a0 x4).bind fun (x5:List Int) =>
    (mgraph_steps_l1 a0 a1 x4 x5 0 (sliceL p2 1 (p2.length:Int)) p3).bind fun (r15:(List Int) × (List Int)) =>
    some (.inl (r15.1,r15.2))
   else none
  else none
 else
  some (.inr (p3))
noncomputable def mgraph_steps_l2 (a0:List (List Int)) (a1:Int) (p2:List Int) (p3:List Int):Option ((List Int)) :=
 Iter (fun (w:(List Int) × (List Int))=>mgraph_steps_l2_s a0 a1 w.1 w.2) (p2,p3)
noncomputable def mgraph_steps (a0:List (List Int)) (a1:Int) (a2:List Int):Option ((List Int)) :=
 if 0 ≤ a1 ∧ a1.toNat < (List.replicate a2.length (0:Int)).length then
  ((List.replicate a2.length (0:Int))[a1.toNat]?).bind fun (x1:Int) =>
  (mgraph_steps_l2 a0 a1 [a1] ((List.replicate a2.length (0:Int)).set a1.toNat 1)).bind fun (r17:(List Int)) =>
  some r17
 else none
noncomputable def mgraph_Cycle_l1_s (a0:Int) (a1:List GArr2I) (p2:Int) (p3:List GArr2I):Option ((Int × (List GArr2I)) ⊕ ((List GArr2I))) :=
 if decide (p2 < (a1.length:Int)) = true then
  (at? a1 p2).bind fun (x4:GArr2I) =>
  if 0 ≤ p2 ∧ p2.toNat < p3.length then
   (p3[p2.toNat]?).bind fun (x5:GArr2I) =>
   some (.inl (IntKind.wrap .i64 (p2 + 1),p3.set p2.toNat (GArr2I.mk x4.e1 x4.e0)))
  else none
 else
  some (.inr (p3))
noncomputable def mgraph_Cycle_l1 (a0:Int) (a1:List GArr2I) (p2:Int) (p3:List GArr2I):Option ((List GArr2I)) :=
 Iter (fun (w:Int × (List GArr2I))=>mgraph_Cycle_l1_s a0 a1 w.1 w.2) (p2,p3)
noncomputable def mgraph_Cycle_l2_s (a0:Int) (p10:Int) (r12:(List Int)) (r8:(List (List Int))) (r9:(List (List Int))) (x13:List Int) (p14:Int) (p15:Int):Option ((Int × Int) ⊕ (Int)) :=
 if decide (p15 < (x13.length:Int)) = true then
  (at? x13 p15).bind fun (x16:Int) =>
  if decide (x16 ≥ p10) = true then
   if 0 ≤ x16 ∧ x16.toNat < r12.length then
    (r12[x16.toNat]?).bind fun (x17:Int) =>
    if decide (x17 > 0) = true then
     if (p14 == 0) = true then
      if 0 ≤ x16 ∧ x16.toNat < r12.length then
       (r12[x16.toNat]?).bind fun (x19:Int) =>
       some (.inl (x19,IntKind.wrap .i64 (p15 + 1)))
      else none
     else
      if 0 ≤ x16 ∧ x16.toNat < r12.length then
       (r12[x16.toNat]?).bind fun (x18:Int) =>
       if decide (x18 < p14) = true then
        if 0 ≤ x16 ∧ x16.toNat < r12.length then
         (r12[x16.toNat]?).bind fun (x20:Int) =>
         some (.inl (x20,IntKind.wrap .i64 (p15 + 1)))
        else none
       else
        some (.inl (p14,IntKind.wrap .i64 (p15 + 1)))
      else none
    else
     some (.inl (p14,IntKind.wrap .i64 (p15 + 1)))
   else none
  else
   some (.inl (p14,IntKind.wrap .i64 (p15 + 1)))
 else
  some (.inr (p14))
noncomputable def mgraph_Cycle_l2 (a0:Int) (p10:Int) (r12:(List Int)) (r8:(List (List Int))) (r9:(List (List Int))) (x13:List Int) (p14:Int) (p15:Int):Option (Int) :=
 Iter (fun (w:Int × Int)=>mgraph_Cycle_l2_s a0 p10 r12 r8 r9 x13 w.1 w.2) (p14,p15)
noncomputable def mgraph_Cycle_l3_s (a0:Int) (p23:Int) (p25:Int) (p26:List Int) (p27:Int) (p28:List Int) (r8:(List (List Int))) (r9:(List (List Int))) (x30:List Int) (p31:Int):Option ((Int) ⊕ ((List Int))) :=
 if decide (p31 < (x30.length:Int)) = true then
  (at? x30 p31).bind fun (x32:Int) =>
  if decide (x32 > p23) = true then
   if 0 ≤ x32 ∧ x32.toNat < p26.length then
    (p26[x32.toNat]?).bind fun (x33:Int) =>
    if (x33 == p27) = true then
     if (p28.length + 1) * 8 ≤ 140737488355328 then
      some (.inr (p28 ++ [x32]))
     else none
    else
     some (.inl (IntKind.wrap .i64 (p31 + 1)))
   else none
  else
   some (.inl (IntKind.wrap .i64 (p31 + 1)))
 else
  some (.inr (p28))
noncomputable def mgraph_Cycle_l3 (a0:Int) (p23:Int) (p25:Int) (p26:List Int) (p27:Int) (p28:List Int) (r8:(List (List Int))) (r9:(List (List Int))) (x30:List Int) (p31:Int):Option ((List Int)) :=
 Iter (fun (w:Int)=>mgraph_Cycle_l3_s a0 p23 p25 p26 p27 p28 r8 r9 x30 w) p31
noncomputable def mgraph_Cycle_l4_s (a0:Int) (p23:Int) (p25:Int) (p26:List Int) (r8:(List (List Int))) (r9:(List (List Int))) (p27:Int) (p28:List Int):Option ((Int × (List Int)) ⊕ ((List Int))) :=
 if decide (p27 > 1) = true then
  if 0 ≤ (IntKind.wrap .i64 ((p28.length:Int) - 1)) ∧ (IntKind.wrap .i64 ((p28.length:Int) - 1)).toNat < p28.length then
   (p28[(IntKind.wrap .i64 ((p28.length:Int) - 1)).toNat]?).bind fun (x29:Int) =>
   (at? r8 x29).bind fun (x30:List Int) =>
   (mgraph_Cycle_l3 a0 p23 p25 p26 p27 p28 r8 r9 x30 0).bind fun (r35:(List Int)) =>
   some (.inl (IntKind.wrap .i64 (p27 - 1),r35))
  else none
 else
  some (.inr (p28))
noncomputable def mgraph_Cycle_l4 (a0:Int) (p23:Int) (p25:Int) (p26:List Int) (r8:(List (List Int))) (r9:(List (List Int))) (p27:Int) (p28:List Int):Option ((List Int)) :=
 Iter (fun (w:Int × (List Int))=>mgraph_Cycle_l4_s a0 p23 p25 p26 r8 r9 w.1 w.2) (p27,p28)
noncomputable def mgraph_Cycle_j5 (a0:Int) (r8:(List (List Int))) (r9:(List (List Int))) (p23:Int) (p24:Int) (p25:Int) (p26:List Int):Option ((List Int)) :=
 (mgraph_Cycle_l4 a0 p23 p25 p26 r8 r9 p24 [p23]).bind fun (r37:(List Int)) =>
 some (r37)
noncomputable def mgraph_Cycle_l6_s (a0:Int) (r8:(List (List Int))) (r9:(List (List Int))) (p10:Int) (p11:List Int):Option ((Int × (List Int)) ⊕ ((Int × (List Int) × (List Int)) ⊕ Unit)) :=
 if decide (p10 < a0) = true then
  (mgraph_steps r9 p10 p11).bind fun (r12:(List Int)) =>
  (at? r8 p10).bind fun (x13:List Int) =>
  (mgraph_Cycle_l2 a0 p10 r12 r8 r9 x13 0 0).bind fun (r22:Int) =>
  if (r22 == 0) = true then
   some (.inl (IntKind.wrap .i64 (p10 + 1),r12))
  else
   (mgraph_Cycle_j5 a0 r8 r9 p10 r22 p10 r12).bind fun (r39:(List Int)) =>
   some (.inr (.inl (IntKind.wrap .i64 (p10 + 1),r12,r39)))
 else
  some (.inr (.inr (())))
noncomputable def mgraph_Cycle_l6 (a0:Int) (r8:(List (List Int))) (r9:(List (List Int))) (p10:Int) (p11:List Int):Option ((Int × (List Int) × (List Int)) ⊕ Unit) :=
 Iter (fun (w:Int × (List Int))=>mgraph_Cycle_l6_s a0 r8 r9 w.1 w.2) (p10,p11)
noncomputable def mgraph_Cycle_l7_s (a0:Int) (p46:Int) (p48:List Int) (r49:(List Int)) (r8:(List (List Int))) (r9:(List (List Int))) (x50:List Int) (p51:Int) (p52:Int):Option ((Int × Int) ⊕ (Int)) :=
 if decide (p52 < (x50.length:Int)) = true then
  (at? x50 p52).bind fun (x53:Int) =>
  if decide (x53 ≥ p46) = true then
   if 0 ≤ x53 ∧ x53.toNat < r49.length then
    (r49[x53.toNat]?).bind fun (x54:Int) =>
    if decide (x54 > 0) = true then
     if (p51 == 0) = true then
      if 0 ≤ x53 ∧ x53.toNat < r49.length then
       (r49[x53.toNat]?).bind fun (x56:Int) =>
       some (.inl (x56,IntKind.wrap .i64 (p52 + 1)))
      else none
     else
      if 0 ≤ x53 ∧ x53.toNat < r49.length then
       (r49[x53.toNat]?).bind fun (x55:Int) =>
       if decide (x55 < p51) = true then
        if 0 ≤ x53 ∧ x53.toNat < r49.length then
         (r49[x53.toNat]?).bind fun (x57:Int) =>
         some (.inl (x57,IntKind.wrap .i64 (p52 + 1)))
        else none
       else
        some (.inl (p51,IntKind.wrap .i64 (p52 + 1)))
      else none
    else
     some (.inl (p51,IntKind.wrap .i64 (p52 + 1)))
   else none
  else
   some (.inl (p51,IntKind.wrap .i64 (p52 + 1)))
 else
  some (.inr (p51))
noncomputable def mgraph_Cycle_l7 (a0:Int) (p46:Int) (p48:List Int) (r49:(List Int)) (r8:(List (List Int))) (r9:(List (List Int))) (x50:List Int) (p51:Int) (p52:Int):Option (Int) :=
 Iter (fun (w:Int × Int)=>mgraph_Cycle_l7_s a0 p46 p48 r49 r8 r9 x50 w.1 w.2) (p51,p52)
noncomputable def mgraph_Cycle_l8_s (a0:Int) (r8:(List (List Int))) (r9:(List (List Int))) (p46:Int) (p47:List Int) (p48:List Int):Option ((Int × (List Int) × (List Int)) ⊕ ((List Int))) :=
 if decide (p46 < a0) = true then
  (mgraph_steps r9 p46 p47).bind fun (r49:(List Int)) =>
  (at? r8 p46).bind fun (x50:List Int) =>
  (mgraph_Cycle_l7 a0 p46 p48 r49 r8 r9 x50 0 0).bind fun (r59:Int) =>
  if (r59 == 0) = true then
   some (.inl (IntKind.wrap .i64 (p46 + 1),r49,p48))
  else
   if 0 < p48.length then
    if decide (r59 ≥ (p48.length:Int)) = true then
     some (.inl (IntKind.wrap .i64 (p46 + 1),r49,p48))
    else
     (mgraph_Cycle_j5 a0 r8 r9 p46 r59 p46 r49).bind fun (r60:(List Int)) =>
     some (.inl (IntKind.wrap .i64 (p46 + 1),r49,r60))
   else none
 else
  some (.inr (p48))
noncomputable def mgraph_Cycle_l8 (a0:Int) (r8:(List (List Int))) (r9:(List (List Int))) (p46:Int) (p47:List Int) (p48:List Int):Option ((List Int)) :=
 Iter (fun (w:Int × (List Int) × (List Int))=>mgraph_Cycle_l8_s a0 r8 r9 w.1 w.2.1 w.2.2) (p46,p47,p48)
noncomputable def mgraph_Cycle (a0:Int) (a1:List GArr2I):Option ((List Int)) :=
 (mgraph_right a0 a1).bind fun (r1:Bool) =>
 if (!(r1)) = true then
  some []
 else
  if 0 ≤ (a1.length:Int) ∧ (a1.length:Int) ≤ (a1.length:Int) ∧ 16 * (a1.length:Int) ≤ 281474976710656 ∧ (a1.length:Int) ≤ 9223372036854775807 then
   (mgraph_Cycle_l1 a0 a1 0 (List.replicate ((a1.length:Int).toNat) ((GArr2I.mk 0 0):GArr2I))).bind fun (r7:(List GArr2I)) =>
   (mgraph_next a0 a1).bind fun (r8:(List (List Int))) =>
   (mgraph_next a0 r7).bind fun (r9:(List (List Int))) =>
   if 0 ≤ a0 ∧ a0 ≤ a0 ∧ 8 * a0 ≤ 281474976710656 ∧ a0 ≤ 9223372036854775807 then
    (mgraph_Cycle_l6 a0 r8 r9 0 (List.replicate a0.toNat (0:Int))).bind fun (r43:(Int × (List Int) × (List Int)) ⊕ Unit)=>Sum.elim (fun z44 =>
    (mgraph_Cycle_l8 a0 r8 r9 z44.1 z44.2.1 z44.2.2).bind fun (r62:(List Int)) =>
     some r62) (fun z45 =>
    some []) r43
   else none
  else none
noncomputable def mallongelaw45_UndoReaches_l1_s (a0:List GLean) (a1:List Bool) (a2:Int) (p4:Int) (p6:Int) (r1:Bool) (p9:Int) (p10:List GArr2I):Option ((Int × (List GArr2I)) ⊕ ((List GArr2I))) :=
 (at? a0 p4).bind fun (x11:GLean) =>
 (at? x11.Supports p6).bind fun (x12:List Int) =>
 if decide (p9 < (x12.length:Int)) = true then
  (at? a0 p4).bind fun (x13:GLean) =>
  (at? x13.Supports p6).bind fun (x14:List Int) =>
  (at? x14 p9).bind fun (x15:Int) =>
  if (p10.length + 1) * 16 ≤ 140737488355328 then
   some (.inl (IntKind.wrap .i64 (p9 + 1),p10 ++ [(GArr2I.mk x15 p4)]))
  else none
 else
  some (.inr (p10))
noncomputable def mallongelaw45_UndoReaches_l1 (a0:List GLean) (a1:List Bool) (a2:Int) (p4:Int) (p6:Int) (r1:Bool) (p9:Int) (p10:List GArr2I):Option ((List GArr2I)) :=
 Iter (fun (w:Int × (List GArr2I))=>mallongelaw45_UndoReaches_l1_s a0 a1 a2 p4 p6 r1 w.1 w.2) (p9,p10)
noncomputable def mallongelaw45_UndoReaches_l2_s (a0:List GLean) (a1:List Bool) (a2:Int) (p4:Int) (r1:Bool) (p6:Int) (p7:List GArr2I):Option ((Int × (List GArr2I)) ⊕ ((List GArr2I))) :=
 (at? a0 p4).bind fun (x8:GLean) =>
 if decide (p6 < (x8.Supports.length:Int)) = true then
  (mallongelaw45_UndoReaches_l1 a0 a1 a2 p4 p6 r1 0 p7).bind fun (r17:(List GArr2I)) =>
  some (.inl (IntKind.wrap .i64 (p6 + 1),r17))
 else
  some (.inr (p7))
noncomputable def mallongelaw45_UndoReaches_l2 (a0:List GLean) (a1:List Bool) (a2:Int) (p4:Int) (r1:Bool) (p6:Int) (p7:List GArr2I):Option ((List GArr2I)) :=
 Iter (fun (w:Int × (List GArr2I))=>mallongelaw45_UndoReaches_l2_s a0 a1 a2 p4 r1 w.1 w.2) (p6,p7)
noncomputable def mallongelaw45_UndoReaches_l3_s (a0:List GLean) (a1:List Bool) (a2:Int) (r1:Bool) (p4:Int) (p5:List GArr2I):Option ((Int × (List GArr2I)) ⊕ ((List GArr2I))) :=
 if decide (p4 < (a0.length:Int)) = true then
  (mallongelaw45_UndoReaches_l2 a0 a1 a2 p4 r1 0 p5).bind fun (r19:(List GArr2I)) =>
  some (.inl (IntKind.wrap .i64 (p4 + 1),r19))
 else
  some (.inr (p5))
noncomputable def mallongelaw45_UndoReaches_l3 (a0:List GLean) (a1:List Bool) (a2:Int) (r1:Bool) (p4:Int) (p5:List GArr2I):Option ((List GArr2I)) :=
 Iter (fun (w:Int × (List GArr2I))=>mallongelaw45_UndoReaches_l3_s a0 a1 a2 r1 w.1 w.2) (p4,p5)
noncomputable def mallongelaw45_UndoReaches_l4_s (a0:List GLean) (a1:List Bool) (a2:Int) (r1:Bool) (r21:(List GArr2I)) (r22:(List Bool)) (r23:(List Int)) (p25:Int):Option ((Int) ⊕ (Unit ⊕ Unit)) :=
 if decide (p25 < (r23.length:Int)) = true then
  (at? r23 p25).bind fun (x26:Int) =>
  (at? r22 x26).bind fun (x27:Bool) =>
  if (!(x27)) = true then
   some (.inr (.inr (())))
  else
   some (.inl (IntKind.wrap .i64 (p25 + 1)))
 else
  some (.inr (.inl ()))
noncomputable def mallongelaw45_UndoReaches_l4 (a0:List GLean) (a1:List Bool) (a2:Int) (r1:Bool) (r21:(List GArr2I)) (r22:(List Bool)) (r23:(List Int)) (p25:Int):Option (Unit ⊕ Unit) :=
 Iter (fun (w:Int)=>mallongelaw45_UndoReaches_l4_s a0 a1 a2 r1 r21 r22 r23 w) p25
noncomputable def mallongelaw45_UndoReaches (a0:List GLean) (a1:List Bool) (a2:Int):Option (Bool) :=
 (mallongelaw45_sane).bind fun (r1:Bool) =>
 (mallongeref45_Few a0).bind fun (r2:Bool) =>
 if (!(r2)) = true then
  some r1
 else
  (mundo_Right a0).bind fun (r3:Bool) =>
  if (!(r3)) = true then
   some r1
  else
   if ((a1.length:Int) != (a0.length:Int)) = true then
    some r1
   else
    if decide (a2 < 0) = true then
     some r1
    else
     if decide (a2 ≥ (a0.length:Int)) = true then
      some r1
     else
      (mallongelaw45_UndoReaches_l3 a0 a1 a2 r1 0 []).bind fun (r21:(List GArr2I)) =>
      if decide ((r21.length:Int) > 2000) = true then
       some r1
      else
       (mgraph_Reach (a0.length:Int) r21 a2).bind fun (r22:(List Bool)) =>
       (mundo_Strike a0 a1 [a2]).bind fun (r23:(List Int)) =>
       if ((r22.length:Int) != (a0.length:Int)) = true then
        some false
       else
        (mallongeref45_Rising r23 (a0.length:Int)).bind fun (r24:Bool) =>
        if (!(r24)) = true then
         some false
        else
         (mallongelaw45_UndoReaches_l4 a0 a1 a2 r1 r21 r22 r23 0).bind fun (r28:Unit ⊕ Unit)=>Sum.elim (fun z29 =>
         (mundo_Standing a0 a1).bind fun (r31:(List Bool)) =>
          if ((r31.length:Int) != (a0.length:Int)) = true then
           some false
          else
           if r1 = true then
            (at? r31 a2).bind fun (x32:Bool) =>
            if ((decide ((r23.length:Int) > 0)) == x32) = true then
             (mgraph_Cycle (a0.length:Int) r21).bind fun (r33:(List Int)) =>
             some ((r33.length:Int) == 0)
            else
             some false
           else
            some false) (fun z30 =>
         some false) r28
end Go.Proofs.Ytmekbfccmnjdcaa
