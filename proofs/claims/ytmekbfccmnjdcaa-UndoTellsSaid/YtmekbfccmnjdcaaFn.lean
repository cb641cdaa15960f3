/- What the functions compute, as plain definitions. Printed by a program. -/
import Derived.Test.YtmekbfccmnjdcaaTab
set_option linter.unusedVariables false
set_option linter.unusedSimpArgs false
namespace Go.Proofs.Ytmekbfccmnjdcaa
open Vm
open Go.RowKit
noncomputable def mallongelaw45_example:Option ((List GLean)) :=
 some [(GLean.mk []),(GLean.mk []),(GLean.mk []),(GLean.mk [[0,1],[2]]),(GLean.mk [[3]]),(GLean.mk [[1]])]
noncomputable def mundo_rising_l1_s (a0:List Int) (a1:Int) (p1:Int):Option ((Int) ⊕ (Unit ⊕ Unit)) :=
 if decide (p1 < (a0.length:Int)) = true then
  (at? a0 p1).bind fun (x2:Int) =>
  if decide (x2 < 0) = true then
   some (.inr (.inr (())))
  else
   if decide (x2 ≥ a1) = true then
    some (.inr (.inr (())))
   else
    if decide (p1 > 0) = true then
     (at? a0 (IntKind.wrap .i64 (p1 - 1))).bind fun (x3:Int) =>
     if decide (x2 ≤ x3) = true then
      some (.inr (.inr (())))
     else
      some (.inl (IntKind.wrap .i64 (p1 + 1)))
    else
     some (.inl (IntKind.wrap .i64 (p1 + 1)))
 else
  some (.inr (.inl ()))
noncomputable def mundo_rising_l1 (a0:List Int) (a1:Int) (p1:Int):Option (Unit ⊕ Unit) :=
 Iter (fun (w:Int)=>mundo_rising_l1_s a0 a1 w) p1
noncomputable def mundo_rising (a0:List Int) (a1:Int):Option (Bool) :=
 (mundo_rising_l1 a0 a1 0).bind fun (r4:Unit ⊕ Unit)=>Sum.elim (fun z5 =>
 some true) (fun z6 =>
 some false) r4
noncomputable def mundo_Right_l1_s (a0:List GLean) (p1:Int) (x2:GLean) (p3:Int):Option ((Int) ⊕ (Unit ⊕ Unit)) :=
 if decide (p3 < (x2.Supports.length:Int)) = true then
  (at? x2.Supports p3).bind fun (x4:List Int) =>
  if decide ((x4.length:Int) < 1) = true then
   some (.inr (.inr (())))
  else
   if decide ((x4.length:Int) > 20) = true then
    some (.inr (.inr (())))
   else
    (mundo_rising x4 p1).bind fun (r5:Bool) =>
    if (!(r5)) = true then
     some (.inr (.inr (())))
    else
     some (.inl (IntKind.wrap .i64 (p3 + 1)))
 else
  some (.inr (.inl ()))
noncomputable def mundo_Right_l1 (a0:List GLean) (p1:Int) (x2:GLean) (p3:Int):Option (Unit ⊕ Unit) :=
 Iter (fun (w:Int)=>mundo_Right_l1_s a0 p1 x2 w) p3
noncomputable def mundo_Right_l2_s (a0:List GLean) (p1:Int):Option ((Int) ⊕ (Unit ⊕ Unit)) :=
 if decide (p1 < (a0.length:Int)) = true then
  (at? a0 p1).bind fun (x2:GLean) =>
  if decide ((x2.Supports.length:Int) > 20) = true then
   some (.inr (.inr (())))
  else
   (mundo_Right_l1 a0 p1 x2 0).bind fun (r6:Unit ⊕ Unit)=>Sum.elim (fun z7 =>
   some (.inl (IntKind.wrap .i64 (p1 + 1)))) (fun z8 =>
   some (.inr (.inr (())))) r6
 else
  some (.inr (.inl ()))
noncomputable def mundo_Right_l2 (a0:List GLean) (p1:Int):Option (Unit ⊕ Unit) :=
 Iter (fun (w:Int)=>mundo_Right_l2_s a0 w) p1
noncomputable def mundo_Right (a0:List GLean):Option (Bool) :=
 if decide ((a0.length:Int) > 300) = true then
  some false
 else
  (mundo_Right_l2 a0 0).bind fun (r9:Unit ⊕ Unit)=>Sum.elim (fun z10 =>
  some true) (fun z11 =>
  some false) r9
noncomputable def mundo_whole_1_s1 (a0:Int) (a1:Option MB):Option (Bool) :=
 if in64 a0 then
  some (!(getO a0 false a1))
 else none
noncomputable def mslices_IndexFunc_int_int_112_s1_l1_s (a0:List Int) (a1:Option MB) (p1:Int):Option ((Int) ⊕ (Unit ⊕ Int)) :=
 if decide (p1 < (a0.length:Int)) = true then
  (at? a0 p1).bind fun (x2:Int) =>
  (mundo_whole_1_s1 x2 a1).bind fun (r3:Bool) =>
  if r3 = true then
   some (.inr (.inr (p1)))
  else
   some (.inl (IntKind.wrap .i64 (p1 + 1)))
 else
  some (.inr (.inl ()))
noncomputable def mslices_IndexFunc_int_int_112_s1_l1 (a0:List Int) (a1:Option MB) (p1:Int):Option (Unit ⊕ Int) :=
 Iter (fun (w:Int)=>mslices_IndexFunc_int_int_112_s1_l1_s a0 a1 w) p1
noncomputable def mslices_IndexFunc_int_int_112_s1 (a0:List Int) (a1:Option MB):Option (Int) :=
 (mslices_IndexFunc_int_int_112_s1_l1 a0 a1 0).bind fun (r5:Unit ⊕ Int)=>Sum.elim (fun z6 =>
 some (-1)) (fun z7 =>
 some z7) r5
noncomputable def mslices_ContainsFunc_int_int_73_s1 (a0:List Int) (a1:Option MB):Option (Bool) :=
 (mslices_IndexFunc_int_int_112_s1 a0 a1).bind fun (r1:Int) =>
 some (decide (r1 ≥ 0))
noncomputable def mundo_whole (a0:List Int) (a1:Option MB):Option (Bool) :=
 (mslices_ContainsFunc_int_int_73_s1 a0 a1).bind fun (r1:Bool) =>
 some (!(r1))
noncomputable def mundo_held_1_s1 (a0:List Int) (a1:Option MB):Option (Bool) :=
 (mundo_whole a0 a1).bind fun (r1:Bool) =>
 some r1
noncomputable def mslices_IndexFunc_int_int_113_s1_l1_s (a0:List (List Int)) (a1:Option MB) (p1:Int):Option ((Int) ⊕ (Unit ⊕ Int)) :=
 if decide (p1 < (a0.length:Int)) = true then
  (at? a0 p1).bind fun (x2:List Int) =>
  (mundo_held_1_s1 x2 a1).bind fun (r3:Bool) =>
  if r3 = true then
   some (.inr (.inr (p1)))
  else
   some (.inl (IntKind.wrap .i64 (p1 + 1)))
 else
  some (.inr (.inl ()))
noncomputable def mslices_IndexFunc_int_int_113_s1_l1 (a0:List (List Int)) (a1:Option MB) (p1:Int):Option (Unit ⊕ Int) :=
 Iter (fun (w:Int)=>mslices_IndexFunc_int_int_113_s1_l1_s a0 a1 w) p1
noncomputable def mslices_IndexFunc_int_int_113_s1 (a0:List (List Int)) (a1:Option MB):Option (Int) :=
 (mslices_IndexFunc_int_int_113_s1_l1 a0 a1 0).bind fun (r5:Unit ⊕ Int)=>Sum.elim (fun z6 =>
 some (-1)) (fun z7 =>
 some z7) r5
noncomputable def mslices_ContainsFunc_int_int_78_s1 (a0:List (List Int)) (a1:Option MB):Option (Bool) :=
 (mslices_IndexFunc_int_int_113_s1 a0 a1).bind fun (r1:Int) =>
 some (decide (r1 ≥ 0))
noncomputable def mundo_held (a0:GLean) (a1:Option MB):Option (Bool) :=
 if ((a0.Supports.length:Int) == 0) = true then
  some true
 else
  (mslices_ContainsFunc_int_int_78_s1 a0.Supports a1).bind fun (r1:Bool) =>
  some r1
noncomputable def mundo_standing_l1_s (a0:List GLean) (a1:List Bool) (p1:Int) (p2:MB):Option ((Int × MB) ⊕ (MB)) :=
 if decide (p1 < (a0.length:Int)) = true then
  (at? a0 p1).bind fun (x3:GLean) =>
  (at? a1 p1).bind fun (x4:Bool) =>
  if (!(x4)) = true then
   (mundo_held x3 (some p2)).bind fun (r5:Bool) =>
   if r5 = true then
    if in64 p1 then
     if p2.length < 1000000000000 then
      some (.inl (IntKind.wrap .i64 (p1 + 1),putG p1 true p2))
     else none
    else none
   else
    some (.inl (IntKind.wrap .i64 (p1 + 1),p2))
  else
   some (.inl (IntKind.wrap .i64 (p1 + 1),p2))
 else
  some (.inr (p2))
noncomputable def mundo_standing_l1 (a0:List GLean) (a1:List Bool) (p1:Int) (p2:MB):Option (MB) :=
 Iter (fun (w:Int × MB)=>mundo_standing_l1_s a0 a1 w.1 w.2) (p1,p2)
noncomputable def mundo_standing (a0:List GLean) (a1:List Bool):Option (MB) :=
 (mundo_standing_l1 a0 a1 0 []).bind fun (r7:MB) =>
 some r7
noncomputable def mundo_Why_l1_s (a0:List GLean) (r2:MB) (p3:Int) (p4:MB):Option ((Int × MB) ⊕ (MB)) :=
 if decide (p3 < (a0.length:Int)) = true then
  if in64 p3 then
   if p4.length < 1000000000000 then
    some (.inl (IntKind.wrap .i64 (p3 + 1),putG p3 true p4))
   else none
  else none
 else
  some (.inr (p4))
noncomputable def mundo_Why_l1 (a0:List GLean) (r2:MB) (p3:Int) (p4:MB):Option (MB) :=
 Iter (fun (w:Int × MB)=>mundo_Why_l1_s a0 r2 w.1 w.2) (p3,p4)
noncomputable def mundo_Why_l2_s (r2:MB) (p7:Int) (p8:MB):Option ((Int × MB) ⊕ (MB)) :=
 if decide (p7 < ([some r2].length:Int)) = true then
  if 0 ≤ p7 ∧ p7.toNat < 1 then
   ([some r2][p7.toNat]?).bind fun (x9:Option MB) =>
   some (.inl (IntKind.wrap .i64 (p7 + 1),subO x9 p8))
  else none
 else
  some (.inr (p8))
noncomputable def mundo_Why_l2 (r2:MB) (p7:Int) (p8:MB):Option (MB) :=
 Iter (fun (w:Int × MB)=>mundo_Why_l2_s r2 w.1 w.2) (p7,p8)
noncomputable def mundo_Why_l3_s (a0:List GLean) (p12:Int) (r2:MB) (x16:List Int) (p18:Int) (p19:MB):Option ((Int × MB) ⊕ (MB)) :=
 if decide (p18 < (x16.length:Int)) = true then
  (at? x16 p18).bind fun (x20:Int) =>
  if in64 x20 then
   if p19.length < 1000000000000 then
    some (.inl (IntKind.wrap .i64 (p18 + 1),putG x20 true p19))
   else none
  else none
 else
  some (.inr (p19))
noncomputable def mundo_Why_l3 (a0:List GLean) (p12:Int) (r2:MB) (x16:List Int) (p18:Int) (p19:MB):Option (MB) :=
 Iter (fun (w:Int × MB)=>mundo_Why_l3_s a0 p12 r2 x16 w.1 w.2) (p18,p19)
noncomputable def mundo_Why_l4_s (a0:List GLean) (p12:Int) (p13:MB) (r2:MB) (x14:GLean) (p15:Int):Option ((Int) ⊕ (MB)) :=
 if decide (p15 < (x14.Supports.length:Int)) = true then
  (at? x14.Supports p15).bind fun (x16:List Int) =>
  (mundo_whole x16 (some r2)).bind fun (r17:Bool) =>
  if r17 = true then
   (mundo_Why_l3 a0 p12 r2 x16 0 p13).bind fun (r22:MB) =>
   some (.inr (r22))
  else
   some (.inl (IntKind.wrap .i64 (p15 + 1)))
 else
  some (.inr (p13))
noncomputable def mundo_Why_l4 (a0:List GLean) (p12:Int) (p13:MB) (r2:MB) (x14:GLean) (p15:Int):Option (MB) :=
 Iter (fun (w:Int)=>mundo_Why_l4_s a0 p12 p13 r2 x14 w) p15
noncomputable def mundo_Why_l5_s (a0:List GLean) (r2:MB) (p12:Int) (p13:MB):Option ((Int × MB) ⊕ (MB)) :=
 if decide (p12 ≥ 0) = true then
  if in64 p12 then
   if (!(getG p12 false p13)) = true then
    some (.inl (IntKind.wrap .i64 (p12 - 1),p13))
   else
    (at? a0 p12).bind fun (x14:GLean) =>
    (mundo_Why_l4 a0 p12 p13 r2 x14 0).bind fun (r24:MB) =>
    some (.inl (IntKind.wrap .i64 (p12 - 1),r24))
  else none
 else
  some (.inr (p13))
noncomputable def mundo_Why_l5 (a0:List GLean) (r2:MB) (p12:Int) (p13:MB):Option (MB) :=
 Iter (fun (w:Int × MB)=>mundo_Why_l5_s a0 r2 w.1 w.2) (p12,p13)
noncomputable def mundo_Why_l6_s (r26:MB):Option ((Unit) ⊕ (Unit)) :=
 if decide (0 < 0) = true then
  none
 else
  some (.inr (()))
noncomputable def mundo_Why_l6 (r26:MB):Option (Unit) :=
 Iter (fun (w:Unit)=>mundo_Why_l6_s r26) ()
noncomputable def mundo_Why (a0:List GLean) (a1:List Bool) (a2:Int):Option ((List Int) × Bool) :=
 (mundo_Right a0).bind fun (r1:Bool) =>
 if (!(r1)) = true then
  some ([],false)
 else
  if ((a1.length:Int) != (a0.length:Int)) = true then
   some ([],false)
  else
   if decide (a2 < 0) = true then
    some ([],false)
   else
    if decide (a2 ≥ (a0.length:Int)) = true then
     some ([],false)
    else
     (mundo_standing a0 a1).bind fun (r2:MB) =>
     if in64 a2 then
      if (!(getG a2 false r2)) = true then
       (mundo_Why_l1 a0 r2 0 []).bind fun (r6:MB) =>
       (mundo_Why_l2 r2 0 r6).bind fun (r11:MB) =>
       if r11.length < 1000000000000 then
        some (keysO (some r11),false)
       else none
      else
       if in64 a2 then
        if 0 < 1000000000000 then
         (mundo_Why_l5 a0 r2 a2 (putG a2 true [])).bind fun (r26:MB) =>
         (mundo_Why_l6 r26).bind fun (r27:Unit) =>
         if r26.length < 1000000000000 then
          some (keysO (some r26),true)
         else none
        else none
       else none
     else none
noncomputable def mallongeref06_SameInts_l1_s (a0:List Int) (a1:List Int) (p1:Int):Option ((Int) ⊕ (Unit ⊕ Unit)) :=
 if decide (p1 < (a0.length:Int)) = true then
  (at? a0 p1).bind fun (x2:Int) =>
  (at? a1 p1).bind fun (x3:Int) =>
  if (x2 != x3) = true then
   some (.inr (.inr (())))
  else
   some (.inl (IntKind.wrap .i64 (p1 + 1)))
 else
  some (.inr (.inl ()))
noncomputable def mallongeref06_SameInts_l1 (a0:List Int) (a1:List Int) (p1:Int):Option (Unit ⊕ Unit) :=
 Iter (fun (w:Int)=>mallongeref06_SameInts_l1_s a0 a1 w) p1
noncomputable def mallongeref06_SameInts (a0:List Int) (a1:List Int):Option (Bool) :=
 if ((a0.length:Int) != (a1.length:Int)) = true then
  some false
 else
  (mallongeref06_SameInts_l1 a0 a1 0).bind fun (r4:Unit ⊕ Unit)=>Sum.elim (fun z5 =>
  some true) (fun z6 =>
  some false) r4
noncomputable def mundo_Standing (a0:List GLean) (a1:List Bool):Option ((List Bool)) :=
 (mundo_Right a0).bind fun (r1:Bool) =>
 if (!(r1)) = true then
  some []
 else
  if ((a1.length:Int) != (a0.length:Int)) = true then
   some []
  else
   if 0 ≤ (a0.length:Int) ∧ (a0.length:Int) ≤ (a0.length:Int) ∧ 1 * (a0.length:Int) ≤ 281474976710656 ∧ (a0.length:Int) ≤ 9223372036854775807 then
    (mundo_standing a0 a1).bind fun (r2:MB) =>
    if keysM r2 ((List.replicate ((a0.length:Int).toNat) (false:Bool)).length) = true then
     some (markM r2 (List.replicate ((a0.length:Int).toNat) (false:Bool)))
    else none
   else none
noncomputable def mallongeref12_SameBools_l1_s (a0:List Bool) (a1:List Bool) (p1:Int):Option ((Int) ⊕ (Unit ⊕ Unit)) :=
 if decide (p1 < (a0.length:Int)) = true then
  (at? a0 p1).bind fun (x2:Bool) =>
  (at? a1 p1).bind fun (x3:Bool) =>
  if (!(x2 == x3)) = true then
   some (.inr (.inr (())))
  else
   some (.inl (IntKind.wrap .i64 (p1 + 1)))
 else
  some (.inr (.inl ()))
noncomputable def mallongeref12_SameBools_l1 (a0:List Bool) (a1:List Bool) (p1:Int):Option (Unit ⊕ Unit) :=
 Iter (fun (w:Int)=>mallongeref12_SameBools_l1_s a0 a1 w) p1
noncomputable def mallongeref12_SameBools (a0:List Bool) (a1:List Bool):Option (Bool) :=
 if ((a0.length:Int) != (a1.length:Int)) = true then
  some false
 else
  (mallongeref12_SameBools_l1 a0 a1 0).bind fun (r4:Unit ⊕ Unit)=>Sum.elim (fun z5 =>
  some true) (fun z6 =>
  some false) r4
noncomputable def mundo_marked_1_s1 (a0:Int) (a1:List GLean):Option (Bool) :=
 if decide (a0 < 0) = true then
  some true
 else
  some (decide (a0 ≥ (a1.length:Int)))
noncomputable def mslices_IndexFunc_int_int_112_s2_l1_s (a0:List Int) (a1:List GLean) (p1:Int):Option ((Int) ⊕ (Unit ⊕ Int)) :=
 if decide (p1 < (a0.length:Int)) = true then
  (at? a0 p1).bind fun (x2:Int) =>
  (mundo_marked_1_s1 x2 a1).bind fun (r3:Bool) =>
  if r3 = true then
   some (.inr (.inr (p1)))
  else
   some (.inl (IntKind.wrap .i64 (p1 + 1)))
 else
  some (.inr (.inl ()))
noncomputable def mslices_IndexFunc_int_int_112_s2_l1 (a0:List Int) (a1:List GLean) (p1:Int):Option (Unit ⊕ Int) :=
 Iter (fun (w:Int)=>mslices_IndexFunc_int_int_112_s2_l1_s a0 a1 w) p1
noncomputable def mslices_IndexFunc_int_int_112_s2 (a0:List Int) (a1:List GLean):Option (Int) :=
 (mslices_IndexFunc_int_int_112_s2_l1 a0 a1 0).bind fun (r5:Unit ⊕ Int)=>Sum.elim (fun z6 =>
 some (-1)) (fun z7 =>
 some z7) r5
noncomputable def mslices_ContainsFunc_int_int_73_s2 (a0:List Int) (a1:List GLean):Option (Bool) :=
 (mslices_IndexFunc_int_int_112_s2 a0 a1).bind fun (r1:Int) =>
 some (decide (r1 ≥ 0))
noncomputable def mslices_Clone_bool_bool (a0:List Bool):Option ((List Bool)):=if a0.length * 1 ≤ 140737488355328 then some a0 else none
noncomputable def mundo_Strike_l1_s (a0:List GLean) (a1:List Bool) (a2:List Int) (p4:Int) (p5:List Bool):Option ((Int × (List Bool)) ⊕ ((List Bool))) :=
 if decide (p4 < (a2.length:Int)) = true then
  (at? a2 p4).bind fun (x6:Int) =>
  if 0 ≤ x6 ∧ x6.toNat < p5.length then
   (p5[x6.toNat]?).bind fun (x7:Bool) =>
   some (.inl (IntKind.wrap .i64 (p4 + 1),p5.set x6.toNat true))
  else none
 else
  some (.inr (p5))
noncomputable def mundo_Strike_l1 (a0:List GLean) (a1:List Bool) (a2:List Int) (p4:Int) (p5:List Bool):Option ((List Bool)) :=
 Iter (fun (w:Int × (List Bool))=>mundo_Strike_l1_s a0 a1 a2 w.1 w.2) (p4,p5)
noncomputable def mundo_Strike_l2_s (p12:Int):Option ((Int) ⊕ (Unit)) :=
 if decide (p12 < ([(none:Option MB)].length:Int)) = true then
  if 0 ≤ p12 ∧ p12.toNat < 1 then
   ([(none:Option MB)][p12.toNat]?).bind fun (x13:Option MB) =>
   some (.inl (IntKind.wrap .i64 (p12 + 1)))
  else none
 else
  some (.inr (()))
noncomputable def mundo_Strike_l2 (p12:Int):Option (Unit) :=
 Iter (fun (w:Int)=>mundo_Strike_l2_s w) p12
noncomputable def mundo_Strike_j3:Option (Unit) :=
 (mundo_Strike_l2 0).bind fun (r14:Unit) =>
 some (())
noncomputable def mundo_Strike_l4_s (r11:MB) (p18:Int) (p19:MB):Option ((Int × MB) ⊕ (MB)) :=
 if decide (p18 < ([some r11].length:Int)) = true then
  if 0 ≤ p18 ∧ p18.toNat < 1 then
   ([some r11][p18.toNat]?).bind fun (x20:Option MB) =>
   some (.inl (IntKind.wrap .i64 (p18 + 1),subO x20 p19))
  else none
 else
  some (.inr (p19))
noncomputable def mundo_Strike_l4 (r11:MB) (p18:Int) (p19:MB):Option (MB) :=
 Iter (fun (w:Int × MB)=>mundo_Strike_l4_s r11 w.1 w.2) (p18,p19)
noncomputable def mundo_Strike_j5 (r10:MB) (r11:MB):Option ((List Int)) :=
 (mundo_Strike_l4 r11 0 r10).bind fun (r22:MB) =>
 if r22.length < 1000000000000 then
  some (keysO (some r22))
 else none
noncomputable def mundo_Strike (a0:List GLean) (a1:List Bool) (a2:List Int):Option ((List Int)) :=
 (mundo_Right a0).bind fun (r1:Bool) =>
 if (!(r1)) = true then
  (mundo_Strike_j3).bind fun (r15:Unit) =>
  some []
 else
  if ((a1.length:Int) != (a0.length:Int)) = true then
   (mundo_Strike_j3).bind fun (r16:Unit) =>
   some []
  else
   (mslices_ContainsFunc_int_int_73_s2 a2 a0).bind fun (r2:Bool) =>
   if r2 = true then
    (mundo_Strike_j3).bind fun (r17:Unit) =>
    some []
   else
    (mslices_Clone_bool_bool a1).bind fun (r3:(List Bool)) =>
    (mundo_Strike_l1 a0 a1 a2 0 r3).bind fun (r9:(List Bool)) =>
    (mundo_standing a0 a1).bind fun (r10:MB) =>
    (mundo_standing a0 r9).bind fun (r11:MB) =>
    (mundo_Strike_j5 r10 r11).bind fun (r24:(List Int)) =>
    some r24
noncomputable def mundo_Restore_l1_s (a0:List GLean) (a1:List Bool) (a2:List Int) (p4:Int) (p5:List Bool):Option ((Int × (List Bool)) ⊕ ((List Bool))) :=
 if decide (p4 < (a2.length:Int)) = true then
  (at? a2 p4).bind fun (x6:Int) =>
  if 0 ≤ x6 ∧ x6.toNat < p5.length then
   (p5[x6.toNat]?).bind fun (x7:Bool) =>
   some (.inl (IntKind.wrap .i64 (p4 + 1),p5.set x6.toNat false))
  else none
 else
  some (.inr (p5))
noncomputable def mundo_Restore_l1 (a0:List GLean) (a1:List Bool) (a2:List Int) (p4:Int) (p5:List Bool):Option ((List Bool)) :=
 Iter (fun (w:Int × (List Bool))=>mundo_Restore_l1_s a0 a1 a2 w.1 w.2) (p4,p5)
noncomputable def mundo_Restore_l2_s (p12:Int):Option ((Int) ⊕ (Unit)) :=
 if decide (p12 < ([(none:Option MB)].length:Int)) = true then
  if 0 ≤ p12 ∧ p12.toNat < 1 then
   ([(none:Option MB)][p12.toNat]?).bind fun (x13:Option MB) =>
   some (.inl (IntKind.wrap .i64 (p12 + 1)))
  else none
 else
  some (.inr (()))
noncomputable def mundo_Restore_l2 (p12:Int):Option (Unit) :=
 Iter (fun (w:Int)=>mundo_Restore_l2_s w) p12
noncomputable def mundo_Restore_j3:Option (Unit) :=
 (mundo_Restore_l2 0).bind fun (r14:Unit) =>
 some (())
noncomputable def mundo_Restore_l4_s (r10:MB) (p18:Int) (p19:MB):Option ((Int × MB) ⊕ (MB)) :=
 if decide (p18 < ([some r10].length:Int)) = true then
  if 0 ≤ p18 ∧ p18.toNat < 1 then
   ([some r10][p18.toNat]?).bind fun (x20:Option MB) =>
   some (.inl (IntKind.wrap .i64 (p18 + 1),subO x20 p19))
  else none
 else
  some (.inr (p19))
noncomputable def mundo_Restore_l4 (r10:MB) (p18:Int) (p19:MB):Option (MB) :=
 Iter (fun (w:Int × MB)=>mundo_Restore_l4_s r10 w.1 w.2) (p18,p19)
noncomputable def mundo_Restore_j5 (r10:MB) (r11:MB):Option ((List Int)) :=
 (mundo_Restore_l4 r10 0 r11).bind fun (r22:MB) =>
 if r22.length < 1000000000000 then
  some (keysO (some r22))
 else none
noncomputable def mundo_Restore (a0:List GLean) (a1:List Bool) (a2:List Int):Option ((List Int)) :=
 (mundo_Right a0).bind fun (r1:Bool) =>
 if (!(r1)) = true then
  (mundo_Restore_j3).bind fun (r15:Unit) =>
  some []
 else
  if ((a1.length:Int) != (a0.length:Int)) = true then
   (mundo_Restore_j3).bind fun (r16:Unit) =>
   some []
  else
   (mslices_ContainsFunc_int_int_73_s2 a2 a0).bind fun (r2:Bool) =>
   if r2 = true then
    (mundo_Restore_j3).bind fun (r17:Unit) =>
    some []
   else
    (mslices_Clone_bool_bool a1).bind fun (r3:(List Bool)) =>
    (mundo_Restore_l1 a0 a1 a2 0 r3).bind fun (r9:(List Bool)) =>
    (mundo_standing a0 a1).bind fun (r10:MB) =>
    (mundo_standing a0 r9).bind fun (r11:MB) =>
    (mundo_Restore_j5 r10 r11).bind fun (r24:(List Int)) =>
    some r24
noncomputable def mslices_Index_int_int_l1_s (a0:List Int) (a1:Int) (p1:Int):Option ((Int) ⊕ (Unit ⊕ Int)) :=
 if decide (p1 < (a0.length:Int)) = true then
  (at? a0 p1).bind fun (x2:Int) =>
  if (a1 == x2) = true then
   some (.inr (.inr (p1)))
  else
   some (.inl (IntKind.wrap .i64 (p1 + 1)))
 else
  some (.inr (.inl ()))
noncomputable def mslices_Index_int_int_l1 (a0:List Int) (a1:Int) (p1:Int):Option (Unit ⊕ Int) :=
 Iter (fun (w:Int)=>mslices_Index_int_int_l1_s a0 a1 w) p1
noncomputable def mslices_Index_int_int (a0:List Int) (a1:Int):Option (Int) :=
 (mslices_Index_int_int_l1 a0 a1 0).bind fun (r4:Unit ⊕ Int)=>Sum.elim (fun z5 =>
 some (-1)) (fun z6 =>
 some z6) r4
noncomputable def mslices_Contains_int_int (a0:List Int) (a1:Int):Option (Bool) :=
 (mslices_Index_int_int a0 a1).bind fun (r1:Int) =>
 some (decide (r1 ≥ 0))
noncomputable def mundo_Proves_l1_s (a0:List GLean) (a1:List Bool) (a3:List Int) (a4:Bool) (p4:Int) (p5:MB):Option ((Int × MB) ⊕ (MB)) :=
 if decide (p4 < (a0.length:Int)) = true then
  if in64 p4 then
   if p5.length < 1000000000000 then
    some (.inl (IntKind.wrap .i64 (p4 + 1),putG p4 true p5))
   else none
  else none
 else
  some (.inr (p5))
noncomputable def mundo_Proves_l1 (a0:List GLean) (a1:List Bool) (a3:List Int) (a4:Bool) (p4:Int) (p5:MB):Option (MB) :=
 Iter (fun (w:Int × MB)=>mundo_Proves_l1_s a0 a1 a3 a4 w.1 w.2) (p4,p5)
noncomputable def mundo_Proves_l2_s (a0:List GLean) (a1:List Bool) (a3:List Int) (a4:Bool) (p8:Int) (p9:MB) (p10:MB):Option ((Int × MB × MB) ⊕ (MB × MB)) :=
 if decide (p8 < (a3.length:Int)) = true then
  (at? a3 p8).bind fun (x11:Int) =>
  if in64 x11 then
   if p9.length < 1000000000000 then
    if in64 x11 then
     some (.inl (IntKind.wrap .i64 (p8 + 1),putG x11 true p9,delG x11 p10))
    else none
   else none
  else none
 else
  some (.inr ((p9,p10)))
noncomputable def mundo_Proves_l2 (a0:List GLean) (a1:List Bool) (a3:List Int) (a4:Bool) (p8:Int) (p9:MB) (p10:MB):Option (MB × MB) :=
 Iter (fun (w:Int × MB × MB)=>mundo_Proves_l2_s a0 a1 a3 a4 w.1 w.2.1 w.2.2) (p8,p9,p10)
noncomputable def mundo_Proves_j3 (a0:List GLean) (a1:List Bool) (a3:List Int) (a4:Bool) (p15:Int) (r14:MB × MB) (x16:Int):Option (Unit ⊕ Unit) :=
 if (!(a4)) = true then
  (at? a1 x16).bind fun (x20:Bool) =>
  if (!(x20)) = true then
   (at? a0 x16).bind fun (x21:GLean) =>
   (mundo_held x21 (some r14.2)).bind fun (r22:Bool) =>
   if r22 = true then
    some (.inr (()))
   else
    some (.inl ())
  else
   some (.inl ())
 else
  some (.inl ())
noncomputable def mundo_Proves_l4_s (a0:List GLean) (a1:List Bool) (a3:List Int) (a4:Bool) (r14:MB × MB) (p15:Int):Option ((Int) ⊕ (Unit ⊕ Unit)) :=
 if decide (p15 < (a3.length:Int)) = true then
  (at? a3 p15).bind fun (x16:Int) =>
  if a4 = true then
   (at? a1 x16).bind fun (x17:Bool) =>
   if x17 = true then
    some (.inr (.inr (())))
   else
    (at? a0 x16).bind fun (x18:GLean) =>
    (mundo_held x18 (some r14.1)).bind fun (r19:Bool) =>
    if (!(r19)) = true then
     some (.inr (.inr (())))
    else
     (mundo_Proves_j3 a0 a1 a3 a4 p15 r14 x16).bind fun (r23:Unit ⊕ Unit)=>Sum.elim (fun z24 =>
     some (.inl (IntKind.wrap .i64 (p15 + 1)))) (fun z25 =>
     some (.inr (.inr (())))) r23
  else
   (mundo_Proves_j3 a0 a1 a3 a4 p15 r14 x16).bind fun (r26:Unit ⊕ Unit)=>Sum.elim (fun z27 =>
   some (.inl (IntKind.wrap .i64 (p15 + 1)))) (fun z28 =>
   some (.inr (.inr (())))) r26
 else
  some (.inr (.inl ()))
noncomputable def mundo_Proves_l4 (a0:List GLean) (a1:List Bool) (a3:List Int) (a4:Bool) (r14:MB × MB) (p15:Int):Option (Unit ⊕ Unit) :=
 Iter (fun (w:Int)=>mundo_Proves_l4_s a0 a1 a3 a4 r14 w) p15
noncomputable def mundo_Proves (a0:List GLean) (a1:List Bool) (a2:Int) (a3:List Int) (a4:Bool):Option (Bool) :=
 (mundo_Right a0).bind fun (r1:Bool) =>
 if (!(r1)) = true then
  some false
 else
  if ((a1.length:Int) != (a0.length:Int)) = true then
   some false
  else
   (mundo_rising a3 (a0.length:Int)).bind fun (r2:Bool) =>
   if (!(r2)) = true then
    some false
   else
    (mslices_Contains_int_int a3 a2).bind fun (r3:Bool) =>
    if (!(r3)) = true then
     some false
    else
     (mundo_Proves_l1 a0 a1 a3 a4 0 []).bind fun (r7:MB) =>
     (mundo_Proves_l2 a0 a1 a3 a4 0 [] r7).bind fun (r14:MB × MB) =>
     (mundo_Proves_l4 a0 a1 a3 a4 r14 0).bind fun (r29:Unit ⊕ Unit)=>Sum.elim (fun z30 =>
     some true) (fun z31 =>
     some false) r29
noncomputable def mallongelaw45_sane:Option (Bool) :=
 (mallongelaw45_example).bind fun (r1:(List GLean)) =>
 if 0 ≤ 6 ∧ 6 ≤ 6 ∧ 1 * 6 ≤ 281474976710656 ∧ 6 ≤ 9223372036854775807 then
  (mundo_Why r1 [false,true,false,false,false,false] 4).bind fun (r2:(List Int) × Bool) =>
  (mundo_Why r1 [false,true,true,false,false,false] 4).bind fun (r3:(List Int) × Bool) =>
  (mundo_Right r1).bind fun (r4:Bool) =>
  if (!(r4)) = true then
   some false
  else
   if (!(r2.2)) = true then
    some false
   else
    if r3.2 = true then
     some false
    else
     (mallongeref06_SameInts r2.1 [2,3,4]).bind fun (r5:Bool) =>
     if (!(r5)) = true then
      some false
     else
      (mallongeref06_SameInts r3.1 [1,2,3,4,5]).bind fun (r6:Bool) =>
      if (!(r6)) = true then
       some false
      else
       (mundo_Standing r1 (List.replicate 6 (false:Bool))).bind fun (r7:(List Bool)) =>
       (mallongeref12_SameBools r7 [true,true,true,true,true,true]).bind fun (r8:Bool) =>
       if r8 = true then
        (mundo_Strike r1 (List.replicate 6 (false:Bool)) [1]).bind fun (r9:(List Int)) =>
        (mallongeref06_SameInts r9 [1,5]).bind fun (r10:Bool) =>
        if r10 = true then
         (mundo_Strike r1 (List.replicate 6 (false:Bool)) [1,2]).bind fun (r11:(List Int)) =>
         (mallongeref06_SameInts r11 [1,2,3,4,5]).bind fun (r12:Bool) =>
         if r12 = true then
          (mundo_Restore r1 [false,true,true,false,false,false] [2]).bind fun (r13:(List Int)) =>
          (mallongeref06_SameInts r13 [2,3,4]).bind fun (r14:Bool) =>
          if r14 = true then
           (mundo_Proves r1 [false,true,false,false,false,false] 4 r2.1 true).bind fun (r15:Bool) =>
           if r15 = true then
            (mundo_Proves r1 [false,true,false,false,false,false] 4 [3,4] true).bind fun (r16:Bool) =>
            some (!(r16))
           else
            some false
          else
           some false
         else
          some false
        else
         some false
       else
        some false
 else none
noncomputable def mallongeref45_Few_l1_s (a0:List GLean) (p1:Int) (p3:Int):Option ((Int) ⊕ (Unit ⊕ Unit)) :=
 (at? a0 p1).bind fun (x4:GLean) =>
 if decide (p3 < (x4.Supports.length:Int)) = true then
  (at? a0 p1).bind fun (x5:GLean) =>
  (at? x5.Supports p3).bind fun (x6:List Int) =>
  if decide ((x6.length:Int) > 25) = true then
   some (.inr (.inr (())))
  else
   some (.inl (IntKind.wrap .i64 (p3 + 1)))
 else
  some (.inr (.inl ()))
noncomputable def mallongeref45_Few_l1 (a0:List GLean) (p1:Int) (p3:Int):Option (Unit ⊕ Unit) :=
 Iter (fun (w:Int)=>mallongeref45_Few_l1_s a0 p1 w) p3
noncomputable def mallongeref45_Few_l2_s (a0:List GLean) (p1:Int):Option ((Int) ⊕ (Unit ⊕ Unit)) :=
 if decide (p1 < (a0.length:Int)) = true then
  if decide (p1 < 60) = true then
   (at? a0 p1).bind fun (x2:GLean) =>
   if decide ((x2.Supports.length:Int) > 25) = true then
    some (.inr (.inr (())))
   else
    (mallongeref45_Few_l1 a0 p1 0).bind fun (r7:Unit ⊕ Unit)=>Sum.elim (fun z8 =>
    some (.inl (IntKind.wrap .i64 (p1 + 1)))) (fun z9 =>
    some (.inr (.inr (())))) r7
  else
   some (.inr (.inl ()))
 else
  some (.inr (.inl ()))
noncomputable def mallongeref45_Few_l2 (a0:List GLean) (p1:Int):Option (Unit ⊕ Unit) :=
 Iter (fun (w:Int)=>mallongeref45_Few_l2_s a0 w) p1
noncomputable def mallongeref45_Few (a0:List GLean):Option (Bool) :=
 (mallongeref45_Few_l2 a0 0).bind fun (r10:Unit ⊕ Unit)=>Sum.elim (fun z11 =>
 if decide ((a0.length:Int) ≤ 40) = true then
   some true
  else
   if decide ((a0.length:Int) > 300) = true then
    some (decide ((a0.length:Int) < 600))
   else
    some false) (fun z12 =>
 some false) r10
noncomputable def mallongeref45_Rising_l1_s (a0:List Int) (a1:Int) (p1:Int):Option ((Int) ⊕ (Unit ⊕ Unit)) :=
 if decide (p1 < (a0.length:Int)) = true then
  (at? a0 p1).bind fun (x2:Int) =>
  if decide (x2 < 0) = true then
   some (.inr (.inr (())))
  else
   (at? a0 p1).bind fun (x3:Int) =>
   if decide (x3 ≥ a1) = true then
    some (.inr (.inr (())))
   else
    if decide (p1 > 0) = true then
     (at? a0 p1).bind fun (x4:Int) =>
     (at? a0 (IntKind.wrap .i64 (p1 - 1))).bind fun (x5:Int) =>
     if decide (x4 ≤ x5) = true then
      some (.inr (.inr (())))
     else
      some (.inl (IntKind.wrap .i64 (p1 + 1)))
    else
     some (.inl (IntKind.wrap .i64 (p1 + 1)))
 else
  some (.inr (.inl ()))
noncomputable def mallongeref45_Rising_l1 (a0:List Int) (a1:Int) (p1:Int):Option (Unit ⊕ Unit) :=
 Iter (fun (w:Int)=>mallongeref45_Rising_l1_s a0 a1 w) p1
noncomputable def mallongeref45_Rising (a0:List Int) (a1:Int):Option (Bool) :=
 (mallongeref45_Rising_l1 a0 a1 0).bind fun (r6:Unit ⊕ Unit)=>Sum.elim (fun z7 =>
 some true) (fun z8 =>
 some false) r6
noncomputable def mallongeref45_Right_l1_s (a0:List GLean) (p1:Int) (p2:Int):Option ((Int) ⊕ (Unit ⊕ Unit)) :=
 (at? a0 p1).bind fun (x3:GLean) =>
 if decide (p2 < (x3.Supports.length:Int)) = true then
  if decide (p2 < 30) = true then
   (at? a0 p1).bind fun (x4:GLean) =>
   (at? x4.Supports p2).bind fun (x5:List Int) =>
   if ((x5.length:Int) == 0) = true then
    some (.inr (.inr (())))
   else
    if decide ((x5.length:Int) > 20) = true then
     some (.inr (.inr (())))
    else
     (at? a0 p1).bind fun (x6:GLean) =>
     (at? x6.Supports p2).bind fun (x7:List Int) =>
     (mallongeref45_Rising x7 p1).bind fun (r8:Bool) =>
     if (!(r8)) = true then
      some (.inr (.inr (())))
     else
      some (.inl (IntKind.wrap .i64 (p2 + 1)))
  else
   some (.inr (.inl ()))
 else
  some (.inr (.inl ()))
noncomputable def mallongeref45_Right_l1 (a0:List GLean) (p1:Int) (p2:Int):Option (Unit ⊕ Unit) :=
 Iter (fun (w:Int)=>mallongeref45_Right_l1_s a0 p1 w) p2
noncomputable def mallongeref45_Right_l2_s (a0:List GLean) (p1:Int):Option ((Int) ⊕ (Unit ⊕ Unit)) :=
 if decide (p1 < (a0.length:Int)) = true then
  (mallongeref45_Right_l1 a0 p1 0).bind fun (r9:Unit ⊕ Unit)=>Sum.elim (fun z10 =>
  (at? a0 p1).bind fun (x12:GLean) =>
   if decide ((x12.Supports.length:Int) > 20) = true then
    some (.inr (.inr (())))
   else
    some (.inl (IntKind.wrap .i64 (p1 + 1)))) (fun z11 =>
  some (.inr (.inr (())))) r9
 else
  some (.inr (.inl ()))
noncomputable def mallongeref45_Right_l2 (a0:List GLean) (p1:Int):Option (Unit ⊕ Unit) :=
 Iter (fun (w:Int)=>mallongeref45_Right_l2_s a0 w) p1
noncomputable def mallongeref45_Right (a0:List GLean):Option (Bool) :=
 if decide ((a0.length:Int) > 300) = true then
  some false
 else
  (mallongeref45_Right_l2 a0 0).bind fun (r13:Unit ⊕ Unit)=>Sum.elim (fun z14 =>
  some true) (fun z15 =>
  some false) r13
noncomputable def mallongeref45_All_l1_s (a0:List Int) (a1:List Bool) (p1:Int):Option ((Int) ⊕ (Unit ⊕ Unit)) :=
 if decide (p1 < (a0.length:Int)) = true then
  (at? a0 p1).bind fun (x2:Int) =>
  (at? a1 x2).bind fun (x3:Bool) =>
  if (!(x3)) = true then
   some (.inr (.inr (())))
  else
   some (.inl (IntKind.wrap .i64 (p1 + 1)))
 else
  some (.inr (.inl ()))
noncomputable def mallongeref45_All_l1 (a0:List Int) (a1:List Bool) (p1:Int):Option (Unit ⊕ Unit) :=
 Iter (fun (w:Int)=>mallongeref45_All_l1_s a0 a1 w) p1
noncomputable def mallongeref45_All (a0:List Int) (a1:List Bool):Option (Bool) :=
 (mallongeref45_All_l1 a0 a1 0).bind fun (r4:Unit ⊕ Unit)=>Sum.elim (fun z5 =>
 some true) (fun z6 =>
 some false) r4
noncomputable def mallongeref45_Held_l1_s (a0:GLean) (a1:List Bool) (p1:Int):Option ((Int) ⊕ (Unit ⊕ Unit)) :=
 if decide (p1 < (a0.Supports.length:Int)) = true then
  (at? a0.Supports p1).bind fun (x2:List Int) =>
  (mallongeref45_All x2 a1).bind fun (r3:Bool) =>
  if r3 = true then
   some (.inr (.inr (())))
  else
   some (.inl (IntKind.wrap .i64 (p1 + 1)))
 else
  some (.inr (.inl ()))
noncomputable def mallongeref45_Held_l1 (a0:GLean) (a1:List Bool) (p1:Int):Option (Unit ⊕ Unit) :=
 Iter (fun (w:Int)=>mallongeref45_Held_l1_s a0 a1 w) p1
noncomputable def mallongeref45_Held (a0:GLean) (a1:List Bool):Option (Bool) :=
 (mallongeref45_Held_l1 a0 a1 0).bind fun (r4:Unit ⊕ Unit)=>Sum.elim (fun z5 =>
 some ((a0.Supports.length:Int) == 0)) (fun z6 =>
 some true) r4
noncomputable def mallongeref45_Standing_l1_s (a0:List GLean) (a1:List Bool) (p2:Int) (p3:List Bool):Option ((Int × (List Bool)) ⊕ ((List Bool))) :=
 if decide (p2 < (a0.length:Int)) = true then
  (at? a1 p2).bind fun (x4:Bool) =>
  if 0 ≤ p2 ∧ p2.toNat < p3.length then
   (p3[p2.toNat]?).bind fun (x5:Bool) =>
   some (.inl (IntKind.wrap .i64 (p2 + 1),p3.set p2.toNat (!(x4))))
  else none
 else
  some (.inr (p3))
noncomputable def mallongeref45_Standing_l1 (a0:List GLean) (a1:List Bool) (p2:Int) (p3:List Bool):Option ((List Bool)) :=
 Iter (fun (w:Int × (List Bool))=>mallongeref45_Standing_l1_s a0 a1 w.1 w.2) (p2,p3)
noncomputable def mallongeref45_Standing_l2_s (a0:List GLean) (p8:Int) (p10:Bool) (p11:Int) (p12:List Bool):Option ((Bool × Int × (List Bool)) ⊕ (Bool × (List Bool))) :=
 if decide (p11 ≥ 0) = true then
  if 0 ≤ p11 ∧ p11.toNat < p12.length then
   (p12[p11.toNat]?).bind fun (x13:Bool) =>
   if x13 = true then
    (at? a0 p11).bind fun (x14:GLean) =>
    (mallongeref45_Held x14 p12).bind fun (r15:Bool) =>
    if (!(r15)) = true then
     if 0 ≤ p11 ∧ p11.toNat < p12.length then
      (p12[p11.toNat]?).bind fun (x16:Bool) =>
      some (.inl (false,IntKind.wrap .i64 (p11 - 1),p12.set p11.toNat false))
     else none
    else
     some (.inl (p10,IntKind.wrap .i64 (p11 - 1),p12))
   else
    some (.inl (p10,IntKind.wrap .i64 (p11 - 1),p12))
  else none
 else
  some (.inr ((p10,p12)))
noncomputable def mallongeref45_Standing_l2 (a0:List GLean) (p8:Int) (p10:Bool) (p11:Int) (p12:List Bool):Option (Bool × (List Bool)) :=
 Iter (fun (w:Bool × Int × (List Bool))=>mallongeref45_Standing_l2_s a0 p8 w.1 w.2.1 w.2.2) (p10,p11,p12)
noncomputable def mallongeref45_Standing_l3_s (a0:List GLean) (p8:Int) (p9:List Bool):Option ((Int × (List Bool)) ⊕ (((List Bool)) ⊕ ((List Bool)))) :=
 if decide (p8 < (a0.length:Int)) = true then
  (mallongeref45_Standing_l2 a0 p8 true (IntKind.wrap .i64 ((a0.length:Int) - 1)) p9).bind fun (r19:Bool × (List Bool)) =>
  if r19.1 = true then
   some (.inr (.inr (r19.2)))
  else
   some (.inl (IntKind.wrap .i64 (p8 + 1),r19.2))
 else
  some (.inr (.inl p9))
noncomputable def mallongeref45_Standing_l3 (a0:List GLean) (p8:Int) (p9:List Bool):Option (((List Bool)) ⊕ ((List Bool))) :=
 Iter (fun (w:Int × (List Bool))=>mallongeref45_Standing_l3_s a0 w.1 w.2) (p8,p9)
noncomputable def mallongeref45_Standing (a0:List GLean) (a1:List Bool):Option ((List Bool)) :=
 (mallongeref45_Right a0).bind fun (r1:Bool) =>
 if (!(r1)) = true then
  some []
 else
  if ((a1.length:Int) != (a0.length:Int)) = true then
   some []
  else
   if 0 ≤ (a0.length:Int) ∧ (a0.length:Int) ≤ (a0.length:Int) ∧ 1 * (a0.length:Int) ≤ 281474976710656 ∧ (a0.length:Int) ≤ 9223372036854775807 then
    (mallongeref45_Standing_l1 a0 a1 0 (List.replicate ((a0.length:Int).toNat) (false:Bool))).bind fun (r7:(List Bool)) =>
    (mallongeref45_Standing_l3 a0 0 r7).bind fun (r22:((List Bool)) ⊕ ((List Bool)))=>Sum.elim (fun z23 =>
    some z23) (fun z24 =>
    some z24) r22
   else none
class RecF where
 run:(List GLean)→(List Bool)→Int→(List Bool)→Option (List Bool)
section
variable [RecF]
noncomputable def mallongeref45_firstB_l1_s (a0:List GLean) (a1:List Bool) (x5:List Int) (p7:Int) (p8:List Bool):Option ((Int × (List Bool)) ⊕ ((List Bool))) :=
 if decide (p7 < (x5.length:Int)) = true then
  (at? x5 p7).bind fun (x9:Int) =>
  if 0 ≤ x9 ∧ x9.toNat < p8.length then
   (p8[x9.toNat]?).bind fun (x10:Bool) =>
   if (!(x10)) = true then
    (at? x5 p7).bind fun (x11:Int) =>
    (RecF.run a0 a1 x11 p8).bind fun (r12:(List Bool)) =>
    some (.inl (IntKind.wrap .i64 (p7 + 1),r12))
   else
    some (.inl (IntKind.wrap .i64 (p7 + 1),p8))
  else none
 else
  some (.inr (p8))
noncomputable def mallongeref45_firstB_l1 (a0:List GLean) (a1:List Bool) (x5:List Int) (p7:Int) (p8:List Bool):Option ((List Bool)) :=
 Iter (fun (w:Int × (List Bool))=>mallongeref45_firstB_l1_s a0 a1 x5 w.1 w.2) (p7,p8)
noncomputable def mallongeref45_firstB_l2_s (a0:List GLean) (a1:List Bool) (a2:Int) (a3:List Bool) (p2:Int):Option ((Int) ⊕ (Unit ⊕ ((List Bool)))) :=
 (at? a0 a2).bind fun (x3:GLean) =>
 if decide (p2 < (x3.Supports.length:Int)) = true then
  (at? a0 a2).bind fun (x4:GLean) =>
  (at? x4.Supports p2).bind fun (x5:List Int) =>
  (mallongeref45_All x5 a1).bind fun (r6:Bool) =>
  if r6 = true then
   (mallongeref45_firstB_l1 a0 a1 x5 0 (a3.set a2.toNat true)).bind fun (r14:(List Bool)) =>
   some (.inr (.inr (r14)))
  else
   some (.inl (IntKind.wrap .i64 (p2 + 1)))
 else
  some (.inr (.inl ()))
noncomputable def mallongeref45_firstB_l2 (a0:List GLean) (a1:List Bool) (a2:Int) (a3:List Bool) (p2:Int):Option (Unit ⊕ ((List Bool))) :=
 Iter (fun (w:Int)=>mallongeref45_firstB_l2_s a0 a1 a2 a3 w) p2
noncomputable def mallongeref45_firstB (a0:List GLean) (a1:List Bool) (a2:Int) (a3:List Bool):Option ((List Bool)) :=
 if 0 ≤ a2 ∧ a2.toNat < a3.length then
  (a3[a2.toNat]?).bind fun (x1:Bool) =>
  (mallongeref45_firstB_l2 a0 a1 a2 a3 0).bind fun (r16:Unit ⊕ ((List Bool)))=>Sum.elim (fun z17 =>
  some (a3.set a2.toNat true)) (fun z18 =>
  some z18) r16
 else none
end
noncomputable def recN:Nat→(List GLean)→(List Bool)→Int→(List Bool)→Option (List Bool)
 | 0=>fun _ _ _ _=>none
 | n + 1=>@mallongeref45_firstB ⟨recN n⟩
noncomputable def mallongeref45_first (a0:List GLean) (a1:List Bool) (a2:Int) (a3:List Bool):Option (List Bool):=recN 1000 a0 a1 a2 a3
noncomputable def mallongeref45_Why_l1_s (a2:Int) (p4:List Bool) (r1:(List Bool)) (p5:Int) (p6:List Int):Option ((Int × (List Int)) ⊕ ((List Int))) :=
 if decide (p5 < (r1.length:Int)) = true then
  if 0 ≤ p5 ∧ p5.toNat < p4.length then
   (p4[p5.toNat]?).bind fun (x7:Bool) =>
   if x7 = true then
    if (p6.length + 1) * 8 ≤ 140737488355328 then
     some (.inl (IntKind.wrap .i64 (p5 + 1),p6 ++ [p5]))
    else none
   else
    (at? r1 a2).bind fun (x8:Bool) =>
    if (!(x8)) = true then
     (at? r1 p5).bind fun (x9:Bool) =>
     if (!(x9)) = true then
      if (p6.length + 1) * 8 ≤ 140737488355328 then
       some (.inl (IntKind.wrap .i64 (p5 + 1),p6 ++ [p5]))
      else none
     else
      some (.inl (IntKind.wrap .i64 (p5 + 1),p6))
    else
     some (.inl (IntKind.wrap .i64 (p5 + 1),p6))
  else none
 else
  some (.inr (p6))
noncomputable def mallongeref45_Why_l1 (a2:Int) (p4:List Bool) (r1:(List Bool)) (p5:Int) (p6:List Int):Option ((List Int)) :=
 Iter (fun (w:Int × (List Int))=>mallongeref45_Why_l1_s a2 p4 r1 w.1 w.2) (p5,p6)
noncomputable def mallongeref45_Why_j2 (a2:Int) (r1:(List Bool)) (p4:List Bool):Option (Bool × (List Int)) :=
 (mallongeref45_Why_l1 a2 p4 r1 0 []).bind fun (r11:(List Int)) =>
 (at? r1 a2).bind fun (x12:Bool) =>
 some ((x12,r11))
noncomputable def mallongeref45_Why (a0:List GLean) (a1:List Bool) (a2:Int):Option ((List Int) × Bool) :=
 (mallongeref45_Standing a0 a1).bind fun (r1:(List Bool)) =>
 if decide (a2 < 0) = true then
  some ([],false)
 else
  if decide (a2 ≥ (r1.length:Int)) = true then
   some ([],false)
  else
   if 0 ≤ (r1.length:Int) ∧ (r1.length:Int) ≤ (r1.length:Int) ∧ 1 * (r1.length:Int) ≤ 281474976710656 ∧ (r1.length:Int) ≤ 9223372036854775807 then
    (at? r1 a2).bind fun (x2:Bool) =>
    if x2 = true then
     (mallongeref45_first a0 r1 a2 (List.replicate ((r1.length:Int).toNat) (false:Bool))).bind fun (r3:(List Bool)) =>
     (mallongeref45_Why_j2 a2 r1 r3).bind fun (r15:Bool × (List Int)) =>
     some (r15.2,r15.1)
    else
     (mallongeref45_Why_j2 a2 r1 (List.replicate ((r1.length:Int).toNat) (false:Bool))).bind fun (r16:Bool × (List Int)) =>
     some (r16.2,r16.1)
   else none
noncomputable def mallongeref45_marked_l1_s (a0:List Bool) (a1:List Int) (a2:Bool) (p1:Int) (p2:List Bool):Option ((Int × (List Bool)) ⊕ (((List Bool)) ⊕ Unit)) :=
 if decide (p1 < (a1.length:Int)) = true then
  (at? a1 p1).bind fun (x3:Int) =>
  if decide (x3 < 0) = true then
   some (.inr (.inr (())))
  else
   (at? a1 p1).bind fun (x4:Int) =>
   if decide (x4 ≥ (a0.length:Int)) = true then
    some (.inr (.inr (())))
   else
    (at? a1 p1).bind fun (x5:Int) =>
    if 0 ≤ x5 ∧ x5.toNat < p2.length then
     (p2[x5.toNat]?).bind fun (x6:Bool) =>
     some (.inl (IntKind.wrap .i64 (p1 + 1),p2.set x5.toNat a2))
    else none
 else
  some (.inr (.inl p2))
noncomputable def mallongeref45_marked_l1 (a0:List Bool) (a1:List Int) (a2:Bool) (p1:Int) (p2:List Bool):Option (((List Bool)) ⊕ Unit) :=
 Iter (fun (w:Int × (List Bool))=>mallongeref45_marked_l1_s a0 a1 a2 w.1 w.2) (p1,p2)
noncomputable def mallongeref45_marked (a0:List Bool) (a1:List Int) (a2:Bool):Option ((List Bool) × Bool) :=
 if (0 + a0.length) * 1 ≤ 140737488355328 then
  (mallongeref45_marked_l1 a0 a1 a2 0 (([]:List Bool) ++ a0)).bind fun (r8:((List Bool)) ⊕ Unit)=>Sum.elim (fun z9 =>
  some (z9,true)) (fun z10 =>
  some ([],false)) r8
 else none
noncomputable def mallongeref45_Strike_l1_s (r1:(List Bool)) (r2:(List Bool) × Bool) (r3:(List Bool)) (p4:Int) (p5:List Int):Option ((Int × (List Int)) ⊕ ((List Int))) :=
 if decide (p4 < (r1.length:Int)) = true then
  if r2.2 = true then
   (at? r1 p4).bind fun (x6:Bool) =>
   if x6 = true then
    (at? r3 p4).bind fun (x7:Bool) =>
    if (!(x7)) = true then
     if (p5.length + 1) * 8 ≤ 140737488355328 then
      some (.inl (IntKind.wrap .i64 (p4 + 1),p5 ++ [p4]))
     else none
    else
     some (.inl (IntKind.wrap .i64 (p4 + 1),p5))
   else
    some (.inl (IntKind.wrap .i64 (p4 + 1),p5))
  else
   some (.inr (p5))
 else
  some (.inr (p5))
noncomputable def mallongeref45_Strike_l1 (r1:(List Bool)) (r2:(List Bool) × Bool) (r3:(List Bool)) (p4:Int) (p5:List Int):Option ((List Int)) :=
 Iter (fun (w:Int × (List Int))=>mallongeref45_Strike_l1_s r1 r2 r3 w.1 w.2) (p4,p5)
noncomputable def mallongeref45_Strike (a0:List GLean) (a1:List Bool) (a2:List Int):Option ((List Int)) :=
 (mallongeref45_Standing a0 a1).bind fun (r1:(List Bool)) =>
 (mallongeref45_marked a1 a2 true).bind fun (r2:(List Bool) × Bool) =>
 (mallongeref45_Standing a0 r2.1).bind fun (r3:(List Bool)) =>
 (mallongeref45_Strike_l1 r1 r2 r3 0 []).bind fun (r9:(List Int)) =>
 some r9
noncomputable def mallongeref45_Restore_l1_s (r1:(List Bool)) (r2:(List Bool) × Bool) (r3:(List Bool)) (p4:Int) (p5:List Int):Option ((Int × (List Int)) ⊕ ((List Int))) :=
 if decide (p4 < (r1.length:Int)) = true then
  if r2.2 = true then
   (at? r1 p4).bind fun (x6:Bool) =>
   if (!(x6)) = true then
    (at? r3 p4).bind fun (x7:Bool) =>
    if x7 = true then
     if (p5.length + 1) * 8 ≤ 140737488355328 then
      some (.inl (IntKind.wrap .i64 (p4 + 1),p5 ++ [p4]))
     else none
    else
     some (.inl (IntKind.wrap .i64 (p4 + 1),p5))
   else
    some (.inl (IntKind.wrap .i64 (p4 + 1),p5))
  else
   some (.inr (p5))
 else
  some (.inr (p5))
noncomputable def mallongeref45_Restore_l1 (r1:(List Bool)) (r2:(List Bool) × Bool) (r3:(List Bool)) (p4:Int) (p5:List Int):Option ((List Int)) :=
 Iter (fun (w:Int × (List Int))=>mallongeref45_Restore_l1_s r1 r2 r3 w.1 w.2) (p4,p5)
noncomputable def mallongeref45_Restore (a0:List GLean) (a1:List Bool) (a2:List Int):Option ((List Int)) :=
 (mallongeref45_Standing a0 a1).bind fun (r1:(List Bool)) =>
 (mallongeref45_marked a1 a2 false).bind fun (r2:(List Bool) × Bool) =>
 (mallongeref45_Standing a0 r2.1).bind fun (r3:(List Bool)) =>
 (mallongeref45_Restore_l1 r1 r2 r3 0 []).bind fun (r9:(List Int)) =>
 some r9
noncomputable def mallongeref45_Some_l1_s (a0:List Int) (a1:List Bool) (p1:Int):Option ((Int) ⊕ (Unit ⊕ Unit)) :=
 if decide (p1 < (a0.length:Int)) = true then
  (at? a0 p1).bind fun (x2:Int) =>
  (at? a1 x2).bind fun (x3:Bool) =>
  if x3 = true then
   some (.inr (.inr (())))
  else
   some (.inl (IntKind.wrap .i64 (p1 + 1)))
 else
  some (.inr (.inl ()))
noncomputable def mallongeref45_Some_l1 (a0:List Int) (a1:List Bool) (p1:Int):Option (Unit ⊕ Unit) :=
 Iter (fun (w:Int)=>mallongeref45_Some_l1_s a0 a1 w) p1
noncomputable def mallongeref45_Some (a0:List Int) (a1:List Bool):Option (Bool) :=
 (mallongeref45_Some_l1 a0 a1 0).bind fun (r4:Unit ⊕ Unit)=>Sum.elim (fun z5 =>
 some false) (fun z6 =>
 some true) r4
noncomputable def mallongeref45_Proves_l1_s (a0:List GLean) (a1:List Bool) (a2:Int) (a3:List Int) (a4:Bool) (p3:Bool) (p4:Int) (p5:List Bool):Option ((Bool × Int × (List Bool)) ⊕ (Bool × (List Bool))) :=
 if decide (p4 < (a3.length:Int)) = true then
  (at? a3 p4).bind fun (x6:Int) =>
  if 0 ≤ x6 ∧ x6.toNat < p5.length then
   (p5[x6.toNat]?).bind fun (x7:Bool) =>
   if p3 = true then
    some (.inl (true,IntKind.wrap .i64 (p4 + 1),p5.set x6.toNat true))
   else
    (at? a3 p4).bind fun (x8:Int) =>
    some (.inl (x8 == a2,IntKind.wrap .i64 (p4 + 1),p5.set x6.toNat true))
  else none
 else
  some (.inr ((p3,p5)))
noncomputable def mallongeref45_Proves_l1 (a0:List GLean) (a1:List Bool) (a2:Int) (a3:List Int) (a4:Bool) (p3:Bool) (p4:Int) (p5:List Bool):Option (Bool × (List Bool)) :=
 Iter (fun (w:Bool × Int × (List Bool))=>mallongeref45_Proves_l1_s a0 a1 a2 a3 a4 w.1 w.2.1 w.2.2) (p3,p4,p5)
noncomputable def mallongeref45_Proves_l2_s (a0:List GLean) (a1:List Bool) (a3:List Int) (a4:Bool) (p12:Int) (r11:Bool × (List Bool)) (x14:GLean) (p20:Int):Option ((Int) ⊕ (Unit ⊕ Unit)) :=
 if decide (p20 < (x14.Supports.length:Int)) = true then
  (at? x14.Supports p20).bind fun (x21:List Int) =>
  (mallongeref45_Some x21 r11.2).bind fun (r22:Bool) =>
  if (!(r22)) = true then
   some (.inr (.inr (())))
  else
   some (.inl (IntKind.wrap .i64 (p20 + 1)))
 else
  some (.inr (.inl ()))
noncomputable def mallongeref45_Proves_l2 (a0:List GLean) (a1:List Bool) (a3:List Int) (a4:Bool) (p12:Int) (r11:Bool × (List Bool)) (x14:GLean) (p20:Int):Option (Unit ⊕ Unit) :=
 Iter (fun (w:Int)=>mallongeref45_Proves_l2_s a0 a1 a3 a4 p12 r11 x14 w) p20
noncomputable def mallongeref45_Proves_j3 (a0:List GLean) (a1:List Bool) (a3:List Int) (a4:Bool) (p12:Int) (r11:Bool × (List Bool)) (x14:GLean):Option (Unit ⊕ Unit) :=
 if ((x14.Supports.length:Int) == 0) = true then
  some (.inr (()))
 else
  (mallongeref45_Proves_l2 a0 a1 a3 a4 p12 r11 x14 0).bind fun (r23:Unit ⊕ Unit)=>Sum.elim (fun z24 =>
  some (.inl ())) (fun z25 =>
  some (.inr (()))) r23
noncomputable def mallongeref45_Proves_j4 (a0:List GLean) (a1:List Bool) (a3:List Int) (a4:Bool) (p12:Int) (r11:Bool × (List Bool)) (x14:GLean):Option (Unit ⊕ Unit) :=
 if (!(a4)) = true then
  (at? a3 p12).bind fun (x18:Int) =>
  (at? a1 x18).bind fun (x19:Bool) =>
  if (!(x19)) = true then
   (mallongeref45_Proves_j3 a0 a1 a3 a4 p12 r11 x14).bind fun (r26:Unit ⊕ Unit)=>Sum.elim (fun z27 =>
   some (.inl ())) (fun z28 =>
   some (.inr (()))) r26
  else
   some (.inl ())
 else
  some (.inl ())
noncomputable def mallongeref45_Proves_l5_s (a0:List GLean) (a1:List Bool) (a3:List Int) (a4:Bool) (r11:Bool × (List Bool)) (p12:Int):Option ((Int) ⊕ (Unit ⊕ Unit)) :=
 if decide (p12 < (a3.length:Int)) = true then
  if r11.1 = true then
   (at? a3 p12).bind fun (x13:Int) =>
   (at? a0 x13).bind fun (x14:GLean) =>
   if a4 = true then
    (at? a3 p12).bind fun (x15:Int) =>
    (at? a1 x15).bind fun (x16:Bool) =>
    if x16 = true then
     some (.inr (.inr (())))
    else
     (mallongeref45_Held x14 r11.2).bind fun (r17:Bool) =>
     if (!(r17)) = true then
      some (.inr (.inr (())))
     else
      (mallongeref45_Proves_j4 a0 a1 a3 a4 p12 r11 x14).bind fun (r29:Unit ⊕ Unit)=>Sum.elim (fun z30 =>
      some (.inl (IntKind.wrap .i64 (p12 + 1)))) (fun z31 =>
      some (.inr (.inr (())))) r29
   else
    (mallongeref45_Proves_j4 a0 a1 a3 a4 p12 r11 x14).bind fun (r32:Unit ⊕ Unit)=>Sum.elim (fun z33 =>
    some (.inl (IntKind.wrap .i64 (p12 + 1)))) (fun z34 =>
    some (.inr (.inr (())))) r32
  else
   some (.inr (.inl ()))
 else
  some (.inr (.inl ()))
noncomputable def mallongeref45_Proves_l5 (a0:List GLean) (a1:List Bool) (a3:List Int) (a4:Bool) (r11:Bool × (List Bool)) (p12:Int):Option (Unit ⊕ Unit) :=
 Iter (fun (w:Int)=>mallongeref45_Proves_l5_s a0 a1 a3 a4 r11 w) p12
noncomputable def mallongeref45_Proves (a0:List GLean) (a1:List Bool) (a2:Int) (a3:List Int) (a4:Bool):Option (Bool) :=
 (mallongeref45_Right a0).bind fun (r1:Bool) =>
 if (!(r1)) = true then
  some false
 else
  if ((a1.length:Int) != (a0.length:Int)) = true then
   some false
  else
   (mallongeref45_Rising a3 (a0.length:Int)).bind fun (r2:Bool) =>
   if (!(r2)) = true then
    some false
   else
    if 0 ≤ (a0.length:Int) ∧ (a0.length:Int) ≤ (a0.length:Int) ∧ 1 * (a0.length:Int) ≤ 281474976710656 ∧ (a0.length:Int) ≤ 9223372036854775807 then
     (mallongeref45_Proves_l1 a0 a1 a2 a3 a4 false 0 (List.replicate ((a0.length:Int).toNat) (false:Bool))).bind fun (r11:Bool × (List Bool)) =>
     (mallongeref45_Proves_l5 a0 a1 a3 a4 r11 0).bind fun (r35:Unit ⊕ Unit)=>Sum.elim (fun z36 =>
     some r11.1) (fun z37 =>
     some false) r35
    else none
noncomputable def mallongelaw45_UndoTells (a0:List GLean) (a1:List Bool) (a2:List Int) (a3:Int) (a4:Bool):Option (Bool) :=
 (mallongelaw45_sane).bind fun (r1:Bool) =>
 (mallongeref45_Few a0).bind fun (r2:Bool) =>
 if (!(r2)) = true then
  some r1
 else
  if decide ((a1.length:Int) > 600) = true then
   some r1
  else
   if decide ((a2.length:Int) > 60) = true then
    some r1
   else
    (mundo_Why a0 a1 a3).bind fun (r3:(List Int) × Bool) =>
    (mallongeref45_Why a0 a1 a3).bind fun (r4:(List Int) × Bool) =>
    if (!(r3.2 == r4.2)) = true then
     some false
    else
     (mallongeref06_SameInts r3.1 r4.1).bind fun (r5:Bool) =>
     if (!(r5)) = true then
      some false
     else
      (mundo_Right a0).bind fun (r6:Bool) =>
      (mallongeref45_Right a0).bind fun (r7:Bool) =>
      if (!(r6 == r7)) = true then
       some false
      else
       (mundo_Standing a0 a1).bind fun (r8:(List Bool)) =>
       (mallongeref45_Standing a0 a1).bind fun (r9:(List Bool)) =>
       (mallongeref12_SameBools r8 r9).bind fun (r10:Bool) =>
       if (!(r10)) = true then
        some false
       else
        if r1 = true then
         (mundo_Strike a0 a1 a2).bind fun (r11:(List Int)) =>
         (mallongeref45_Strike a0 a1 a2).bind fun (r12:(List Int)) =>
         (mallongeref06_SameInts r11 r12).bind fun (r13:Bool) =>
         if r13 = true then
          (mundo_Restore a0 a1 a2).bind fun (r14:(List Int)) =>
          (mallongeref45_Restore a0 a1 a2).bind fun (r15:(List Int)) =>
          (mallongeref06_SameInts r14 r15).bind fun (r16:Bool) =>
          if r16 = true then
           (mundo_Proves a0 a1 a3 a2 a4).bind fun (r17:Bool) =>
           (mallongeref45_Proves a0 a1 a3 a2 a4).bind fun (r18:Bool) =>
           some (r17 == r18)
          else
           some false
         else
          some false
        else
         some false
end Go.Proofs.Ytmekbfccmnjdcaa
