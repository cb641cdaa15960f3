/- What the functions compute, as plain definitions. Printed by a program. -/
import Derived.Test.YtgipgbhlibafhaaTab
set_option linter.unusedVariables false
set_option linter.unusedSimpArgs false
namespace Go.Proofs.Ytgipgbhlibafhaa
open Vm
open Go.RowKit
noncomputable def mclearing_Right_l1_s (a0:Int) (a1:List GDue) (p1:Int):Option ((Int) ⊕ (Unit ⊕ Unit)) :=
 if decide (p1 < (a1.length:Int)) = true then
  (at? a1 p1).bind fun (x2:GDue) =>
  if decide (x2.From < 0) = true then
   some (.inr (.inr (())))
  else
   if decide (x2.From ≥ a0) = true then
    some (.inr (.inr (())))
   else
    if decide (x2.To < 0) = true then
     some (.inr (.inr (())))
    else
     if decide (x2.To ≥ a0) = true then
      some (.inr (.inr (())))
     else
      if (x2.From == x2.To) = true then
       some (.inr (.inr (())))
      else
       if decide (x2.Sum < 1) = true then
        some (.inr (.inr (())))
       else
        if decide (x2.Sum > 1099511627776) = true then
         some (.inr (.inr (())))
        else
         some (.inl (IntKind.wrap .i64 (p1 + 1)))
 else
  some (.inr (.inl ()))
noncomputable def mclearing_Right_l1 (a0:Int) (a1:List GDue) (p1:Int):Option (Unit ⊕ Unit) :=
 Iter (fun (w:Int)=>mclearing_Right_l1_s a0 a1 w) p1
noncomputable def mclearing_Right (a0:Int) (a1:List GDue):Option (Bool) :=
 if decide (a0 < 0) = true then
  some false
 else
  if decide (a0 > 40) = true then
   some false
  else
   if decide ((a1.length:Int) > 100) = true then
    some false
   else
    (mclearing_Right_l1 a0 a1 0).bind fun (r3:Unit ⊕ Unit)=>Sum.elim (fun z4 =>
    some true) (fun z5 =>
    some false) r3
noncomputable def mclearing_steps_j1 (a0:List GDue) (a1:List Int) (p1:Int) (x3:GDue) (p6:List GClearingStep):Option ((List GClearingStep)) :=
 (at? a1 p1).bind fun (x7:Int) =>
 if decide (x7 > 0) = true then
  (at? a1 p1).bind fun (x8:Int) =>
  if (p6.length + 1) * 48 ≤ 140737488355328 then
   some (p6 ++ [(GClearingStep.mk p1 x3.To x3.From 1 x8 true)])
  else none
 else
  some (p6)
noncomputable def mclearing_steps_l2_s (a0:List GDue) (a1:List Int) (p1:Int) (p2:List GClearingStep):Option ((Int × (List GClearingStep)) ⊕ ((List GClearingStep))) :=
 if decide (p1 < (a0.length:Int)) = true then
  (at? a0 p1).bind fun (x3:GDue) =>
  (at? a1 p1).bind fun (x4:Int) =>
  if decide (x4 < x3.Sum) = true then
   (at? a1 p1).bind fun (x5:Int) =>
   if (p2.length + 1) * 48 ≤ 140737488355328 then
    (mclearing_steps_j1 a0 a1 p1 x3 (p2 ++ [(GClearingStep.mk p1 x3.From x3.To (-1) (IntKind.wrap .i64 (x3.Sum - x5)) false)])).bind fun (r10:(List GClearingStep)) =>
    some (.inl (IntKind.wrap .i64 (p1 + 1),r10))
   else none
  else
   (mclearing_steps_j1 a0 a1 p1 x3 p2).bind fun (r11:(List GClearingStep)) =>
   some (.inl (IntKind.wrap .i64 (p1 + 1),r11))
 else
  some (.inr (p2))
noncomputable def mclearing_steps_l2 (a0:List GDue) (a1:List Int) (p1:Int) (p2:List GClearingStep):Option ((List GClearingStep)) :=
 Iter (fun (w:Int × (List GClearingStep))=>mclearing_steps_l2_s a0 a1 w.1 w.2) (p1,p2)
noncomputable def mclearing_steps (a0:List GDue) (a1:List Int):Option ((List GClearingStep)) :=
 (mclearing_steps_l2 a0 a1 0 []).bind fun (r13:(List GClearingStep)) =>
 some r13
noncomputable def mslices_Repeat_int_int (a0:List Int) (a1:Int):Option ((List Int)):=repL a0 a1
noncomputable def m_clearing_cost_onward (a0:GClearingCost) (a1:GClearingStep):Option (GClearingCost) :=
 some (GClearingCost.mk (IntKind.wrap .i64 (a0.c + a1.cost)) (IntKind.wrap .i64 (a0.steps + 1)) a0.fine)
noncomputable def m_clearing_cost_less (a0:GClearingCost) (a1:GClearingCost):Option (Bool) :=
 if a0.fine = true then
  if (!(a1.fine)) = true then
   some true
  else
   if decide (a0.c < a1.c) = true then
    some true
   else
    if (a0.c == a1.c) = true then
     some (decide (a0.steps < a1.steps))
    else
     some false
 else
  some false
noncomputable def mclearing_cheapest_l1_s (a0:Int) (a1:List GClearingStep) (a2:List Int) (p1:Int) (p2:List GClearingCost):Option ((Int × (List GClearingCost)) ⊕ ((List GClearingCost))) :=
 if decide (p1 < a0) = true then
  (at? a2 p1).bind fun (x3:Int) =>
  if 0 ≤ p1 ∧ p1.toNat < p2.length then
   (p2[p1.toNat]?).bind fun (x4:GClearingCost) =>
   some (.inl (IntKind.wrap .i64 (p1 + 1),p2.set p1.toNat (GClearingCost.mk x4.c x4.steps (decide (x3 > 0)))))
  else none
 else
  some (.inr (p2))
noncomputable def mclearing_cheapest_l1 (a0:Int) (a1:List GClearingStep) (a2:List Int) (p1:Int) (p2:List GClearingCost):Option ((List GClearingCost)) :=
 Iter (fun (w:Int × (List GClearingCost))=>mclearing_cheapest_l1_s a0 a1 a2 w.1 w.2) (p1,p2)
noncomputable def mclearing_cheapest_l2_s (a1:List GClearingStep) (p11:Bool) (p12:Int) (p13:List GClearingCost) (p14:List Int):Option ((Bool × Int × (List GClearingCost) × (List Int)) ⊕ (Bool × (List GClearingCost) × (List Int))) :=
 if decide (p12 < (a1.length:Int)) = true then
  (at? a1 p12).bind fun (x15:GClearingStep) =>
  if 0 ≤ x15.from_ ∧ x15.from_.toNat < p13.length then
   (p13[x15.from_.toNat]?).bind fun (x16:GClearingCost) =>
   (m_clearing_cost_onward x16 x15).bind fun (r17:GClearingCost) =>
   if 0 ≤ x15.to ∧ x15.to.toNat < p13.length then
    (p13[x15.to.toNat]?).bind fun (x18:GClearingCost) =>
    (m_clearing_cost_less r17 x18).bind fun (r19:Bool) =>
    if r19 = true then
     if 0 ≤ x15.to ∧ x15.to.toNat < p13.length then
      (p13[x15.to.toNat]?).bind fun (x20:GClearingCost) =>
      if 0 ≤ x15.to ∧ x15.to.toNat < p14.length then
       (p14[x15.to.toNat]?).bind fun (x21:Int) =>
       some (.inl (true,IntKind.wrap .i64 (p12 + 1),p13.set x15.to.toNat r17,p14.set x15.to.toNat p12))
      else none
     else none
    else
     some (.inl (p11,IntKind.wrap .i64 (p12 + 1),p13,p14))
   else none
  else none
 else
  some (.inr ((p11,p13,p14)))
noncomputable def mclearing_cheapest_l2 (a1:List GClearingStep) (p11:Bool) (p12:Int) (p13:List GClearingCost) (p14:List Int):Option (Bool × (List GClearingCost) × (List Int)) :=
 Iter (fun (w:Bool × Int × (List GClearingCost) × (List Int))=>mclearing_cheapest_l2_s a1 w.1 w.2.1 w.2.2.1 w.2.2.2) (p11,p12,p13,p14)
noncomputable def mclearing_cheapest_l3_s (a1:List GClearingStep) (p8:Bool) (p9:List GClearingCost) (p10:List Int):Option ((Bool × (List GClearingCost) × (List Int)) ⊕ ((List GClearingCost) × (List Int))) :=
 if p8 = true then
  (mclearing_cheapest_l2 a1 false 0 p9 p10).bind fun (r25:Bool × (List GClearingCost) × (List Int)) =>
  some (.inl (r25.1,r25.2.1,r25.2.2))
 else
  some (.inr ((p9,p10)))
noncomputable def mclearing_cheapest_l3 (a1:List GClearingStep) (p8:Bool) (p9:List GClearingCost) (p10:List Int):Option ((List GClearingCost) × (List Int)) :=
 Iter (fun (w:Bool × (List GClearingCost) × (List Int))=>mclearing_cheapest_l3_s a1 w.1 w.2.1 w.2.2) (p8,p9,p10)
noncomputable def mclearing_cheapest (a0:Int) (a1:List GClearingStep) (a2:List Int):Option ((List GClearingCost) × (List Int)) :=
 if 0 ≤ a0 ∧ a0 ≤ a0 ∧ 24 * a0 ≤ 281474976710656 ∧ a0 ≤ 9223372036854775807 then
  (mclearing_cheapest_l1 a0 a1 a2 0 (List.replicate a0.toNat ((GClearingCost.mk 0 0 false):GClearingCost))).bind fun (r6:(List GClearingCost)) =>
  (mslices_Repeat_int_int [(-1)] (r6.length:Int)).bind fun (r7:(List Int)) =>
  (mclearing_cheapest_l3 a1 true r6 r7).bind fun (r28:(List GClearingCost) × (List Int)) =>
  some (r28.1,r28.2)
 else none
noncomputable def m_clearing_step_move_j1 (a0:GClearingStep) (a1:List Int) (p1:Int):Option ((List Int)) :=
 if 0 ≤ a0.due ∧ a0.due.toNat < a1.length then
  (a1[a0.due.toNat]?).bind fun (x2:Int) =>
  if 0 ≤ a0.due ∧ a0.due.toNat < a1.length then
   (a1[a0.due.toNat]?).bind fun (x3:Int) =>
   some (a1.set a0.due.toNat (IntKind.wrap .i64 (x2 + p1)))
  else none
 else none
noncomputable def m_clearing_step_move (a0:GClearingStep) (a1:List Int) (a2:Int):Option ((List Int)) :=
 if a0.back = true then
  (m_clearing_step_move_j1 a0 a1 (IntKind.wrap .i64 (0 - a2))).bind fun (r5:(List Int)) =>
  some r5
 else
  (m_clearing_step_move_j1 a0 a1 a2).bind fun (r6:(List Int)) =>
  some r6
noncomputable def mclearing_balance_l1_s (a0:Int) (a1:List GDue) (a2:List Int) (p1:Int) (p2:List Int):Option ((Int × (List Int)) ⊕ ((List Int))) :=
 if decide (p1 < (a1.length:Int)) = true then
  (at? a1 p1).bind fun (x3:GDue) =>
  if 0 ≤ x3.To ∧ x3.To.toNat < p2.length then
   (p2[x3.To.toNat]?).bind fun (x4:Int) =>
   if 0 ≤ p1 ∧ p1.toNat < a2.length then
    (a2[p1.toNat]?).bind fun (x5:Int) =>
    if 0 ≤ x3.To ∧ x3.To.toNat < p2.length then
     (p2[x3.To.toNat]?).bind fun (x6:Int) =>
     if 0 ≤ x3.From ∧ x3.From.toNat < (p2.set x3.To.toNat (IntKind.wrap .i64 (x4 + x5))).length then
      ((p2.set x3.To.toNat (IntKind.wrap .i64 (x4 + x5)))[x3.From.toNat]?).bind fun (x7:Int) =>
      if 0 ≤ p1 ∧ p1.toNat < a2.length then
       (a2[p1.toNat]?).bind fun (x8:Int) =>
       if 0 ≤ x3.From ∧ x3.From.toNat < (p2.set x3.To.toNat (IntKind.wrap .i64 (x4 + x5))).length then
        ((p2.set x3.To.toNat (IntKind.wrap .i64 (x4 + x5)))[x3.From.toNat]?).bind fun (x9:Int) =>
        some (.inl (IntKind.wrap .i64 (p1 + 1),(p2.set x3.To.toNat (IntKind.wrap .i64 (x4 + x5))).set x3.From.toNat (IntKind.wrap .i64 (x7 - x8))))
       else none
      else none
     else none
    else none
   else none
  else none
 else
  some (.inr (p2))
noncomputable def mclearing_balance_l1 (a0:Int) (a1:List GDue) (a2:List Int) (p1:Int) (p2:List Int):Option ((List Int)) :=
 Iter (fun (w:Int × (List Int))=>mclearing_balance_l1_s a0 a1 a2 w.1 w.2) (p1,p2)
noncomputable def mclearing_balance_l2_s (a0:Int) (a1:List GDue) (p12:List Int) (p13:List Int) (r14:(List GClearingStep)) (r15:(List GClearingCost) × (List Int)) (p16:Int) (p17:Int):Option ((Int × Int) ⊕ (Int)) :=
 if decide (p17 < a0) = true then
  if 0 ≤ p17 ∧ p17.toNat < p12.length then
   (p12[p17.toNat]?).bind fun (x18:Int) =>
   if decide (x18 < 0) = true then
    if decide (p16 < 0) = true then
     if 0 ≤ p17 ∧ p17.toNat < r15.1.length then
      (r15.1[p17.toNat]?).bind fun (x19:GClearingCost) =>
      if x19.fine = true then
       some (.inl (p17,IntKind.wrap .i64 (p17 + 1)))
      else
       if decide (p16 ≥ 0) = true then
        if 0 ≤ p17 ∧ p17.toNat < r15.1.length then
         (r15.1[p17.toNat]?).bind fun (x20:GClearingCost) =>
         if 0 ≤ p16 ∧ p16.toNat < r15.1.length then
          (r15.1[p16.toNat]?).bind fun (x21:GClearingCost) =>
          (m_clearing_cost_less x20 x21).bind fun (r22:Bool) =>
          if r22 = true then
           some (.inl (p17,IntKind.wrap .i64 (p17 + 1)))
          else
           some (.inl (p16,IntKind.wrap .i64 (p17 + 1)))
         else none
        else none
       else
        some (.inl (p16,IntKind.wrap .i64 (p17 + 1)))
     else none
    else
     if decide (p16 ≥ 0) = true then
      if 0 ≤ p17 ∧ p17.toNat < r15.1.length then
       (r15.1[p17.toNat]?).bind fun (x23:GClearingCost) =>
       if 0 ≤ p16 ∧ p16.toNat < r15.1.length then
        (r15.1[p16.toNat]?).bind fun (x24:GClearingCost) =>
        (m_clearing_cost_less x23 x24).bind fun (r25:Bool) =>
        if r25 = true then
         some (.inl (p17,IntKind.wrap .i64 (p17 + 1)))
        else
         some (.inl (p16,IntKind.wrap .i64 (p17 + 1)))
       else none
      else none
     else
      some (.inl (p16,IntKind.wrap .i64 (p17 + 1)))
   else
    some (.inl (p16,IntKind.wrap .i64 (p17 + 1)))
  else none
 else
  some (.inr (p16))
noncomputable def mclearing_balance_l2 (a0:Int) (a1:List GDue) (p12:List Int) (p13:List Int) (r14:(List GClearingStep)) (r15:(List GClearingCost) × (List Int)) (p16:Int) (p17:Int):Option (Int) :=
 Iter (fun (w:Int × Int)=>mclearing_balance_l2_s a0 a1 p12 p13 r14 r15 w.1 w.2) (p16,p17)
noncomputable def mclearing_balance_l3_s (a0:Int) (a1:List GDue) (p12:List Int) (p13:List Int) (r14:(List GClearingStep)) (r15:(List GClearingCost) × (List Int)) (r27:Int) (p29:Int) (p30:Int):Option ((Int × Int) ⊕ (Int × Int)) :=
 if 0 ≤ p30 ∧ p30.toNat < r15.2.length then
  (r15.2[p30.toNat]?).bind fun (x31:Int) =>
  if decide (x31 ≥ 0) = true then
   if 0 ≤ p30 ∧ p30.toNat < r15.2.length then
    (r15.2[p30.toNat]?).bind fun (x32:Int) =>
    if 0 ≤ x32 ∧ x32.toNat < r14.length then
     (r14[x32.toNat]?).bind fun (x33:GClearingStep) =>
     if 0 ≤ p30 ∧ p30.toNat < r15.2.length then
      (r15.2[p30.toNat]?).bind fun (x34:Int) =>
      if 0 ≤ x34 ∧ x34.toNat < r14.length then
       (r14[x34.toNat]?).bind fun (x35:GClearingStep) =>
       some (.inl ((if x33.most < p29 then x33.most else p29),x35.from_))
      else none
     else none
    else none
   else none
  else
   some (.inr ((p29,p30)))
 else none
noncomputable def mclearing_balance_l3 (a0:Int) (a1:List GDue) (p12:List Int) (p13:List Int) (r14:(List GClearingStep)) (r15:(List GClearingCost) × (List Int)) (r27:Int) (p29:Int) (p30:Int):Option (Int × Int) :=
 Iter (fun (w:Int × Int)=>mclearing_balance_l3_s a0 a1 p12 p13 r14 r15 r27 w.1 w.2) (p29,p30)
noncomputable def mclearing_balance_l4_s (a0:Int) (a1:List GDue) (p12:List Int) (r14:(List GClearingStep)) (r15:(List GClearingCost) × (List Int)) (r27:Int) (r38:Int × Int) (x39:Int) (p40:Int) (p41:List Int):Option ((Int × (List Int)) ⊕ ((List Int))) :=
 if 0 ≤ p40 ∧ p40.toNat < r15.2.length then
  (r15.2[p40.toNat]?).bind fun (x42:Int) =>
  if decide (x42 ≥ 0) = true then
   if 0 ≤ p40 ∧ p40.toNat < r15.2.length then
    (r15.2[p40.toNat]?).bind fun (x43:Int) =>
    if 0 ≤ x43 ∧ x43.toNat < r14.length then
     (r14[x43.toNat]?).bind fun (x44:GClearingStep) =>
     (m_clearing_step_move x44 p41 (if x39 < r38.1 then x39 else r38.1)).bind fun (r45:(List Int)) =>
     if 0 ≤ p40 ∧ p40.toNat < r15.2.length then
      (r15.2[p40.toNat]?).bind fun (x46:Int) =>
      if 0 ≤ x46 ∧ x46.toNat < r14.length then
       (r14[x46.toNat]?).bind fun (x47:GClearingStep) =>
       some (.inl (x47.from_,r45))
      else none
     else none
    else none
   else none
  else
   some (.inr (p41))
 else none
noncomputable def mclearing_balance_l4 (a0:Int) (a1:List GDue) (p12:List Int) (r14:(List GClearingStep)) (r15:(List GClearingCost) × (List Int)) (r27:Int) (r38:Int × Int) (x39:Int) (p40:Int) (p41:List Int):Option ((List Int)) :=
 Iter (fun (w:Int × (List Int))=>mclearing_balance_l4_s a0 a1 p12 r14 r15 r27 r38 x39 w.1 w.2) (p40,p41)
noncomputable def mclearing_balance_l5_s (a0:Int) (a1:List GDue) (p12:List Int) (p13:List Int):Option (((List Int) × (List Int)) ⊕ ((List Int))) :=
 (mclearing_steps a1 p13).bind fun (r14:(List GClearingStep)) =>
 (mclearing_cheapest a0 r14 p12).bind fun (r15:(List GClearingCost) × (List Int)) =>
 (mclearing_balance_l2 a0 a1 p12 p13 r14 r15 (-1) 0).bind fun (r27:Int) =>
 if decide (r27 < 0) = true then
  some (.inr (p13))
 else
  if 0 ≤ r27 ∧ r27.toNat < p12.length then
   (p12[r27.toNat]?).bind fun (x28:Int) =>
   (mclearing_balance_l3 a0 a1 p12 p13 r14 r15 r27 (IntKind.wrap .i64 (0 - x28)) r27).bind fun (r38:Int × Int) =>
   if 0 ≤ r38.2 ∧ r38.2.toNat < p12.length then
    (p12[r38.2.toNat]?).bind fun (x39:Int) =>
    (mclearing_balance_l4 a0 a1 p12 r14 r15 r27 r38 x39 r27 p13).bind fun (r49:(List Int)) =>
    if 0 ≤ r38.2 ∧ r38.2.toNat < p12.length then
     (p12[r38.2.toNat]?).bind fun (x50:Int) =>
     if 0 ≤ r38.2 ∧ r38.2.toNat < p12.length then
      (p12[r38.2.toNat]?).bind fun (x51:Int) =>
      if 0 ≤ r27 ∧ r27.toNat < (p12.set r38.2.toNat (IntKind.wrap .i64 (x50 - (if x39 < r38.1 then x39 else r38.1)))).length then
       ((p12.set r38.2.toNat (IntKind.wrap .i64 (x50 - (if x39 < r38.1 then x39 else r38.1))))[r27.toNat]?).bind fun (x52:Int) =>
       if 0 ≤ r27 ∧ r27.toNat < (p12.set r38.2.toNat (IntKind.wrap .i64 (x50 - (if x39 < r38.1 then x39 else r38.1)))).length then
        ((p12.set r38.2.toNat (IntKind.wrap .i64 (x50 - (if x39 < r38.1 then x39 else r38.1))))[r27.toNat]?).bind fun (x53:Int) =>
        some (.inl ((p12.set r38.2.toNat (IntKind.wrap .i64 (x50 - (if x39 < r38.1 then x39 else r38.1)))).set r27.toNat (IntKind.wrap .i64 (x52 + (if x39 < r38.1 then x39 else r38.1))),r49))
       else none
      else none
     else none
    else none
   else none
  else none
noncomputable def mclearing_balance_l5 (a0:Int) (a1:List GDue) (p12:List Int) (p13:List Int):Option ((List Int)) :=
 Iter (fun (w:(List Int) × (List Int))=>mclearing_balance_l5_s a0 a1 w.1 w.2) (p12,p13)
noncomputable def mclearing_balance (a0:Int) (a1:List GDue) (a2:List Int):Option ((List Int)) :=
 if 0 ≤ a0 ∧ a0 ≤ a0 ∧ 8 * a0 ≤ 281474976710656 ∧ a0 ≤ 9223372036854775807 then
  (mclearing_balance_l1 a0 a1 a2 0 (List.replicate a0.toNat (0:Int))).bind fun (r11:(List Int)) =>
  (mclearing_balance_l5 a0 a1 r11 a2).bind fun (r55:(List Int)) =>
  some r55
 else none
noncomputable def mclearing_potentials_1 (a0:Int) (a1:GClearingStep):Option (Int) :=
 some (IntKind.wrap .i64 (a0 + a1.cost))
noncomputable def mcmp_isNaN_int (a0:Int):Option (Bool) :=
 some (a0 != a0)
noncomputable def mcmp_Less_int (a0:Int) (a1:Int):Option (Bool) :=
 (mcmp_isNaN_int a0).bind fun (r1:Bool) =>
 if r1 = true then
  (mcmp_isNaN_int a1).bind fun (r2:Bool) =>
  if (!(r2)) = true then
   some true
  else
   some (decide (a0 < a1))
 else
  some (decide (a0 < a1))
noncomputable def mclearing_potentials_l1_s (r1:(List GClearingStep)) (p6:Bool) (p7:Int) (p8:List Int) (p9:List Int):Option ((Bool × Int × (List Int) × (List Int)) ⊕ (Bool × (List Int) × (List Int))) :=
 if decide (p7 < (r1.length:Int)) = true then
  if 0 ≤ p7 ∧ p7.toNat < r1.length then
   (r1[p7.toNat]?).bind fun (x10:GClearingStep) =>
   if 0 ≤ x10.from_ ∧ x10.from_.toNat < p8.length then
    (p8[x10.from_.toNat]?).bind fun (x11:Int) =>
    (mclearing_potentials_1 x11 x10).bind fun (r12:Int) =>
    if 0 ≤ x10.to ∧ x10.to.toNat < p8.length then
     (p8[x10.to.toNat]?).bind fun (x13:Int) =>
     (mcmp_Less_int r12 x13).bind fun (r14:Bool) =>
     if r14 = true then
      if 0 ≤ x10.to ∧ x10.to.toNat < p8.length then
       (p8[x10.to.toNat]?).bind fun (x15:Int) =>
       if 0 ≤ x10.to ∧ x10.to.toNat < p9.length then
        (p9[x10.to.toNat]?).bind fun (x16:Int) =>
        some (.inl (true,IntKind.wrap .i64 (p7 + 1),p8.set x10.to.toNat r12,p9.set x10.to.toNat p7))
       else none
      else none
     else
      some (.inl (p6,IntKind.wrap .i64 (p7 + 1),p8,p9))
    else none
   else none
  else none
 else
  some (.inr ((p6,p8,p9)))
noncomputable def mclearing_potentials_l1 (r1:(List GClearingStep)) (p6:Bool) (p7:Int) (p8:List Int) (p9:List Int):Option (Bool × (List Int) × (List Int)) :=
 Iter (fun (w:Bool × Int × (List Int) × (List Int))=>mclearing_potentials_l1_s r1 w.1 w.2.1 w.2.2.1 w.2.2.2) (p6,p7,p8,p9)
noncomputable def mclearing_potentials_l2_s (r1:(List GClearingStep)) (p3:Bool) (p4:List Int) (p5:List Int):Option ((Bool × (List Int) × (List Int)) ⊕ ((List Int) × (List Int))) :=
 if p3 = true then
  (mclearing_potentials_l1 r1 false 0 p4 p5).bind fun (r20:Bool × (List Int) × (List Int)) =>
  some (.inl (r20.1,r20.2.1,r20.2.2))
 else
  some (.inr ((p4,p5)))
noncomputable def mclearing_potentials_l2 (r1:(List GClearingStep)) (p3:Bool) (p4:List Int) (p5:List Int):Option ((List Int) × (List Int)) :=
 Iter (fun (w:Bool × (List Int) × (List Int))=>mclearing_potentials_l2_s r1 w.1 w.2.1 w.2.2) (p3,p4,p5)
noncomputable def mclearing_potentials (a0:Int) (a1:List GDue) (a2:List Int):Option ((List Int)) :=
 if 0 ≤ a0 ∧ a0 ≤ a0 ∧ 8 * a0 ≤ 281474976710656 ∧ a0 ≤ 9223372036854775807 then
  (mclearing_steps a1 a2).bind fun (r1:(List GClearingStep)) =>
  (mslices_Repeat_int_int [(-1)] ((List.replicate a0.toNat (0:Int)).length:Int)).bind fun (r2:(List Int)) =>
  (mclearing_potentials_l2 r1 true (List.replicate a0.toNat (0:Int)) r2).bind fun (r23:(List Int) × (List Int)) =>
  some r23.1
 else none
noncomputable def mclearing_raise_l1_s (a0:Int) (a1:List GDue) (a3:List Int) (a4:Int) (p5:List Int) (r8:(List GClearingStep)) (p9:Int) (p10:List GClearingStep):Option ((Int × (List GClearingStep)) ⊕ ((List GClearingStep))) :=
 if decide (p9 < (r8.length:Int)) = true then
  if 0 ≤ p9 ∧ p9.toNat < r8.length then
   (r8[p9.toNat]?).bind fun (x11:GClearingStep) =>
   if decide (x11.due > a4) = true then
    (at? a3 x11.to).bind fun (x12:Int) =>
    (at? a3 x11.from_).bind fun (x13:Int) =>
    if (x12 == (IntKind.wrap .i64 (x13 + x11.cost))) = true then
     if (p10.length + 1) * 48 ≤ 140737488355328 then
      some (.inl (IntKind.wrap .i64 (p9 + 1),p10 ++ [x11]))
     else none
    else
     some (.inl (IntKind.wrap .i64 (p9 + 1),p10))
   else
    some (.inl (IntKind.wrap .i64 (p9 + 1),p10))
  else none
 else
  some (.inr (p10))
noncomputable def mclearing_raise_l1 (a0:Int) (a1:List GDue) (a3:List Int) (a4:Int) (p5:List Int) (r8:(List GClearingStep)) (p9:Int) (p10:List GClearingStep):Option ((List GClearingStep)) :=
 Iter (fun (w:Int × (List GClearingStep))=>mclearing_raise_l1_s a0 a1 a3 a4 p5 r8 w.1 w.2) (p9,p10)
noncomputable def mclearing_raise_l2_s (a0:Int) (a1:List GDue) (a3:List Int) (a4:Int) (p5:List Int) (r15:(List GClearingStep)) (x16:GDue) (p18:Int) (p19:List GClearingStep):Option ((Int × (List GClearingStep)) ⊕ ((List GClearingStep))) :=
 if decide (p18 < (r15.length:Int)) = true then
  if 0 ≤ p18 ∧ p18.toNat < p19.length then
   (p19[p18.toNat]?).bind fun (x20:GClearingStep) =>
   some (.inl (IntKind.wrap .i64 (p18 + 1),p19.set p18.toNat (GClearingStep.mk x20.due x20.from_ x20.to 0 x20.most x20.back)))
  else none
 else
  some (.inr (p19))
noncomputable def mclearing_raise_l2 (a0:Int) (a1:List GDue) (a3:List Int) (a4:Int) (p5:List Int) (r15:(List GClearingStep)) (x16:GDue) (p18:Int) (p19:List GClearingStep):Option ((List GClearingStep)) :=
 Iter (fun (w:Int × (List GClearingStep))=>mclearing_raise_l2_s a0 a1 a3 a4 p5 r15 x16 w.1 w.2) (p18,p19)
noncomputable def mclearing_raise_l3_s (a0:Int) (a1:List GDue) (a3:List Int) (a4:Int) (p5:List Int) (r22:(List GClearingStep)) (r23:(List GClearingCost) × (List Int)) (p29:Int) (p30:Int):Option ((Int × Int) ⊕ (Int)) :=
 if 0 ≤ p30 ∧ p30.toNat < r23.2.length then
  (r23.2[p30.toNat]?).bind fun (x31:Int) =>
  if decide (x31 ≥ 0) = true then
   if 0 ≤ p30 ∧ p30.toNat < r23.2.length then
    (r23.2[p30.toNat]?).bind fun (x32:Int) =>
    if 0 ≤ x32 ∧ x32.toNat < r22.length then
     (r22[x32.toNat]?).bind fun (x33:GClearingStep) =>
     if 0 ≤ p30 ∧ p30.toNat < r23.2.length then
      (r23.2[p30.toNat]?).bind fun (x34:Int) =>
      if 0 ≤ x34 ∧ x34.toNat < r22.length then
       (r22[x34.toNat]?).bind fun (x35:GClearingStep) =>
       some (.inl ((if x33.most < p29 then x33.most else p29),x35.from_))
      else none
     else none
    else none
   else none
  else
   some (.inr (p29))
 else none
noncomputable def mclearing_raise_l3 (a0:Int) (a1:List GDue) (a3:List Int) (a4:Int) (p5:List Int) (r22:(List GClearingStep)) (r23:(List GClearingCost) × (List Int)) (p29:Int) (p30:Int):Option (Int) :=
 Iter (fun (w:Int × Int)=>mclearing_raise_l3_s a0 a1 a3 a4 p5 r22 r23 w.1 w.2) (p29,p30)
noncomputable def mclearing_raise_l4_s (a0:Int) (a1:List GDue) (a3:List Int) (a4:Int) (r22:(List GClearingStep)) (r23:(List GClearingCost) × (List Int)) (r37:Int) (p39:Int) (p40:List Int):Option ((Int × (List Int)) ⊕ ((List Int))) :=
 if 0 ≤ p39 ∧ p39.toNat < r23.2.length then
  (r23.2[p39.toNat]?).bind fun (x41:Int) =>
  if decide (x41 ≥ 0) = true then
   if 0 ≤ p39 ∧ p39.toNat < r23.2.length then
    (r23.2[p39.toNat]?).bind fun (x42:Int) =>
    if 0 ≤ x42 ∧ x42.toNat < r22.length then
     (r22[x42.toNat]?).bind fun (x43:GClearingStep) =>
     (m_clearing_step_move x43 p40 r37).bind fun (r44:(List Int)) =>
     if 0 ≤ p39 ∧ p39.toNat < r23.2.length then
      (r23.2[p39.toNat]?).bind fun (x45:Int) =>
      if 0 ≤ x45 ∧ x45.toNat < r22.length then
       (r22[x45.toNat]?).bind fun (x46:GClearingStep) =>
       some (.inl (x46.from_,r44))
      else none
     else none
    else none
   else none
  else
   some (.inr (p40))
 else none
noncomputable def mclearing_raise_l4 (a0:Int) (a1:List GDue) (a3:List Int) (a4:Int) (r22:(List GClearingStep)) (r23:(List GClearingCost) × (List Int)) (r37:Int) (p39:Int) (p40:List Int):Option ((List Int)) :=
 Iter (fun (w:Int × (List Int))=>mclearing_raise_l4_s a0 a1 a3 a4 r22 r23 r37 w.1 w.2) (p39,p40)
noncomputable def mclearing_raise_l5_s (a0:Int) (a1:List GDue) (a3:List Int) (a4:Int) (p5:List Int):Option (((List Int)) ⊕ (((List Int)) ⊕ ((List Int)))) :=
 if 0 ≤ a4 ∧ a4.toNat < p5.length then
  (p5[a4.toNat]?).bind fun (x6:Int) =>
  (at? a1 a4).bind fun (x7:GDue) =>
  if decide (x6 < x7.Sum) = true then
   (mclearing_steps a1 p5).bind fun (r8:(List GClearingStep)) =>
   (mclearing_raise_l1 a0 a1 a3 a4 p5 r8 0 []).bind fun (r15:(List GClearingStep)) =>
   if 0 ≤ a0 ∧ a0 ≤ a0 ∧ 8 * a0 ≤ 281474976710656 ∧ a0 ≤ 9223372036854775807 then
    (at? a1 a4).bind fun (x16:GDue) =>
    if 0 ≤ x16.To ∧ x16.To.toNat < (List.replicate a0.toNat (0:Int)).length then
     ((List.replicate a0.toNat (0:Int))[x16.To.toNat]?).bind fun (x17:Int) =>
     (mclearing_raise_l2 a0 a1 a3 a4 p5 r15 x16 0 r15).bind fun (r22:(List GClearingStep)) =>
     (mclearing_cheapest a0 r22 ((List.replicate a0.toNat (0:Int)).set x16.To.toNat 1)).bind fun (r23:(List GClearingCost) × (List Int)) =>
     (at? a1 a4).bind fun (x24:GDue) =>
     if 0 ≤ x24.From ∧ x24.From.toNat < r23.1.length then
      (r23.1[x24.From.toNat]?).bind fun (x25:GClearingCost) =>
      if (!(x25.fine)) = true then
       some (.inr (.inr (p5)))
      else
       (at? a1 a4).bind fun (x26:GDue) =>
       if 0 ≤ a4 ∧ a4.toNat < p5.length then
        (p5[a4.toNat]?).bind fun (x27:Int) =>
        (at? a1 a4).bind fun (x28:GDue) =>
        (mclearing_raise_l3 a0 a1 a3 a4 p5 r22 r23 (IntKind.wrap .i64 (x26.Sum - x27)) x28.From).bind fun (r37:Int) =>
        (at? a1 a4).bind fun (x38:GDue) =>
        (mclearing_raise_l4 a0 a1 a3 a4 r22 r23 r37 x38.From p5).bind fun (r48:(List Int)) =>
        if 0 ≤ a4 ∧ a4.toNat < r48.length then
         (r48[a4.toNat]?).bind fun (x49:Int) =>
         if 0 ≤ a4 ∧ a4.toNat < r48.length then
          (r48[a4.toNat]?).bind fun (x50:Int) =>
          some (.inl (r48.set a4.toNat (IntKind.wrap .i64 (x49 + r37))))
         else none
        else none
       else none
     else none
    else none
   else none
  else
   some (.inr (.inl p5))
 else none
noncomputable def mclearing_raise_l5 (a0:Int) (a1:List GDue) (a3:List Int) (a4:Int) (p5:List Int):Option (((List Int)) ⊕ ((List Int))) :=
 Iter (fun (w:(List Int))=>mclearing_raise_l5_s a0 a1 a3 a4 w) p5
noncomputable def mclearing_raise (a0:Int) (a1:List GDue) (a2:List Int) (a3:List Int) (a4:Int):Option ((List Int)) :=
 (at? a1 a4).bind fun (x1:GDue) =>
 (at? a3 x1.To).bind fun (x2:Int) =>
 (at? a1 a4).bind fun (x3:GDue) =>
 (at? a3 x3.From).bind fun (x4:Int) =>
 if (x2 != (IntKind.wrap .i64 (x4 - 1))) = true then
  some a2
 else
  (mclearing_raise_l5 a0 a1 a3 a4 a2).bind fun (r53:((List Int)) ⊕ ((List Int)))=>Sum.elim (fun z54 =>
  some z54) (fun z55 =>
  some z55) r53
noncomputable def mclearing_Clear_l1_s (a0:Int) (a1:List GDue) (p2:Int) (p3:List Int):Option ((Int × (List Int)) ⊕ ((List Int))) :=
 if decide (p2 < (a1.length:Int)) = true then
  (at? a1 p2).bind fun (x4:GDue) =>
  if 0 ≤ p2 ∧ p2.toNat < p3.length then
   (p3[p2.toNat]?).bind fun (x5:Int) =>
   some (.inl (IntKind.wrap .i64 (p2 + 1),p3.set p2.toNat x4.Sum))
  else none
 else
  some (.inr (p3))
noncomputable def mclearing_Clear_l1 (a0:Int) (a1:List GDue) (p2:Int) (p3:List Int):Option ((List Int)) :=
 Iter (fun (w:Int × (List Int))=>mclearing_Clear_l1_s a0 a1 w.1 w.2) (p2,p3)
noncomputable def mclearing_Clear_l2_s (a0:Int) (a1:List GDue) (r9:(List Int)) (p10:Int) (p11:List Int):Option ((Int × (List Int)) ⊕ ((List Int))) :=
 if decide (p10 < (a1.length:Int)) = true then
  (mclearing_raise a0 a1 p11 r9 p10).bind fun (r12:(List Int)) =>
  some (.inl (IntKind.wrap .i64 (p10 + 1),r12))
 else
  some (.inr (p11))
noncomputable def mclearing_Clear_l2 (a0:Int) (a1:List GDue) (r9:(List Int)) (p10:Int) (p11:List Int):Option ((List Int)) :=
 Iter (fun (w:Int × (List Int))=>mclearing_Clear_l2_s a0 a1 r9 w.1 w.2) (p10,p11)
noncomputable def mclearing_Clear (a0:Int) (a1:List GDue):Option ((List Int) × (List Int) × Int) :=
 (mclearing_Right a0 a1).bind fun (r1:Bool) =>
 if (!(r1)) = true then
  some ([],[],1)
 else
  if 0 ≤ (a1.length:Int) ∧ (a1.length:Int) ≤ (a1.length:Int) ∧ 8 * (a1.length:Int) ≤ 281474976710656 ∧ (a1.length:Int) ≤ 9223372036854775807 then
   (mclearing_Clear_l1 a0 a1 0 (List.replicate ((a1.length:Int).toNat) (0:Int))).bind fun (r7:(List Int)) =>
   (mclearing_balance a0 a1 r7).bind fun (r8:(List Int)) =>
   (mclearing_potentials a0 a1 r8).bind fun (r9:(List Int)) =>
   (mclearing_Clear_l2 a0 a1 r9 0 r8).bind fun (r14:(List Int)) =>
   (mclearing_potentials a0 a1 r14).bind fun (r15:(List Int)) =>
   some (r14,r15,0)
  else none
noncomputable def mallongeref06_SameInts_l1_s (a0:List Int) (a1:List Int) (p1:Int):Option ((Int) ⊕ (Unit ⊕ Unit)) :=
 if decide (p1 < (a0.length:Int)) = true then
  (at? a0 p1).bind fun (x2:Int) =>
  (at? a1 p1).bind fun (x3:Int) =>
  if (x2 != x3) = true then
   some (.inr (.inr (())))
  else
   some (.inl (IntKind.wrap .i64 (p1 + 1)))
 else
  some (.inr (.inl ()))
noncomputable def mallongeref06_SameInts_l1 (a0:List Int) (a1:List Int) (p1:Int):Option (Unit ⊕ Unit) :=
 Iter (fun (w:Int)=>mallongeref06_SameInts_l1_s a0 a1 w) p1
noncomputable def mallongeref06_SameInts (a0:List Int) (a1:List Int):Option (Bool) :=
 if ((a0.length:Int) != (a1.length:Int)) = true then
  some false
 else
  (mallongeref06_SameInts_l1 a0 a1 0).bind fun (r4:Unit ⊕ Unit)=>Sum.elim (fun z5 =>
  some true) (fun z6 =>
  some false) r4
noncomputable def mclearing_Proves_l1_s (a0:Int) (a1:List GDue) (a2:List Int) (a3:List Int) (p2:Int) (p3:List Int):Option ((Int × (List Int)) ⊕ (((List Int)) ⊕ Unit)) :=
 if decide (p2 < (a1.length:Int)) = true then
  (at? a1 p2).bind fun (x4:GDue) =>
  (at? a2 p2).bind fun (x5:Int) =>
  if decide (x5 < 0) = true then
   some (.inr (.inr (())))
  else
   (at? a2 p2).bind fun (x6:Int) =>
   if decide (x6 > x4.Sum) = true then
    some (.inr (.inr (())))
   else
    if 0 ≤ x4.To ∧ x4.To.toNat < p3.length then
     (p3[x4.To.toNat]?).bind fun (x7:Int) =>
     (at? a2 p2).bind fun (x8:Int) =>
     if 0 ≤ x4.To ∧ x4.To.toNat < p3.length then
      (p3[x4.To.toNat]?).bind fun (x9:Int) =>
      if 0 ≤ x4.From ∧ x4.From.toNat < (p3.set x4.To.toNat (IntKind.wrap .i64 (x7 + x8))).length then
       ((p3.set x4.To.toNat (IntKind.wrap .i64 (x7 + x8)))[x4.From.toNat]?).bind fun (x10:Int) =>
       (at? a2 p2).bind fun (x11:Int) =>
       if 0 ≤ x4.From ∧ x4.From.toNat < (p3.set x4.To.toNat (IntKind.wrap .i64 (x7 + x8))).length then
        ((p3.set x4.To.toNat (IntKind.wrap .i64 (x7 + x8)))[x4.From.toNat]?).bind fun (x12:Int) =>
        some (.inl (IntKind.wrap .i64 (p2 + 1),(p3.set x4.To.toNat (IntKind.wrap .i64 (x7 + x8))).set x4.From.toNat (IntKind.wrap .i64 (x10 - x11))))
       else none
      else none
     else none
    else none
 else
  some (.inr (.inl p3))
noncomputable def mclearing_Proves_l1 (a0:Int) (a1:List GDue) (a2:List Int) (a3:List Int) (p2:Int) (p3:List Int):Option (((List Int)) ⊕ Unit) :=
 Iter (fun (w:Int × (List Int))=>mclearing_Proves_l1_s a0 a1 a2 a3 w.1 w.2) (p2,p3)
noncomputable def mclearing_Proves_l2_s (a0:Int) (a1:List GDue) (a2:List Int) (a3:List Int) (z15:(List Int)) (p17:Int):Option ((Int) ⊕ (Unit ⊕ Unit)) :=
 if decide (p17 < a0) = true then
  if 0 ≤ p17 ∧ p17.toNat < z15.length then
   (z15[p17.toNat]?).bind fun (x18:Int) =>
   if (x18 != 0) = true then
    some (.inr (.inr (())))
   else
    (at? a3 p17).bind fun (x19:Int) =>
    if decide (x19 < (-40)) = true then
     some (.inr (.inr (())))
    else
     (at? a3 p17).bind fun (x20:Int) =>
     if decide (x20 > 40) = true then
      some (.inr (.inr (())))
     else
      some (.inl (IntKind.wrap .i64 (p17 + 1)))
  else none
 else
  some (.inr (.inl ()))
noncomputable def mclearing_Proves_l2 (a0:Int) (a1:List GDue) (a2:List Int) (a3:List Int) (z15:(List Int)) (p17:Int):Option (Unit ⊕ Unit) :=
 Iter (fun (w:Int)=>mclearing_Proves_l2_s a0 a1 a2 a3 z15 w) p17
noncomputable def mclearing_Proves_l3_s (a3:List Int) (r24:(List GClearingStep)) (p25:Int):Option ((Int) ⊕ (Unit ⊕ Unit)) :=
 if decide (p25 < (r24.length:Int)) = true then
  if 0 ≤ p25 ∧ p25.toNat < r24.length then
   (r24[p25.toNat]?).bind fun (x26:GClearingStep) =>
   (at? a3 x26.to).bind fun (x27:Int) =>
   (at? a3 x26.from_).bind fun (x28:Int) =>
   if decide (x27 > (IntKind.wrap .i64 (x28 + x26.cost))) = true then
    some (.inr (.inr (())))
   else
    some (.inl (IntKind.wrap .i64 (p25 + 1)))
  else none
 else
  some (.inr (.inl ()))
noncomputable def mclearing_Proves_l3 (a3:List Int) (r24:(List GClearingStep)) (p25:Int):Option (Unit ⊕ Unit) :=
 Iter (fun (w:Int)=>mclearing_Proves_l3_s a3 r24 w) p25
noncomputable def mclearing_Proves (a0:Int) (a1:List GDue) (a2:List Int) (a3:List Int):Option (Bool) :=
 (mclearing_Right a0 a1).bind fun (r1:Bool) =>
 if (!(r1)) = true then
  some false
 else
  if ((a2.length:Int) != (a1.length:Int)) = true then
   some false
  else
   if ((a3.length:Int) != a0) = true then
    some false
   else
    if 0 ≤ a0 ∧ a0 ≤ a0 ∧ 8 * a0 ≤ 281474976710656 ∧ a0 ≤ 9223372036854775807 then
     (mclearing_Proves_l1 a0 a1 a2 a3 0 (List.replicate a0.toNat (0:Int))).bind fun (r14:((List Int)) ⊕ Unit)=>Sum.elim (fun z15 =>
     (mclearing_Proves_l2 a0 a1 a2 a3 z15 0).bind fun (r21:Unit ⊕ Unit)=>Sum.elim (fun z22 =>
      (mclearing_steps a1 a2).bind fun (r24:(List GClearingStep)) =>
       (mclearing_Proves_l3 a3 r24 0).bind fun (r29:Unit ⊕ Unit)=>Sum.elim (fun z30 =>
       some true) (fun z31 =>
       some false) r29) (fun z23 =>
      some false) r21) (fun z16 =>
     some false) r14
    else none
noncomputable def mallongelaw42_says (a0:Int) (a1:List GDue) (a2:List Int) (a3:List Int):Option (Bool) :=
 (mclearing_Clear a0 a1).bind fun (r1:(List Int) × (List Int) × Int) =>
 if (r1.2.2 == 0) = true then
  (mallongeref06_SameInts r1.1 a2).bind fun (r2:Bool) =>
  if r2 = true then
   (mallongeref06_SameInts r1.2.1 a3).bind fun (r3:Bool) =>
   if r3 = true then
    (mclearing_Proves a0 a1 r1.1 r1.2.1).bind fun (r4:Bool) =>
    some r4
   else
    some false
  else
   some false
 else
  some false
noncomputable def mclearing_Total_l1_s (a0:List Int) (p1:Int) (p2:Int):Option ((Int × Int) ⊕ (Int ⊕ Unit)) :=
 if decide (p2 < (a0.length:Int)) = true then
  (at? a0 p2).bind fun (x3:Int) =>
  if decide (x3 < 0) = true then
   some (.inr (.inr (())))
  else
   if decide (x3 > 1099511627776) = true then
    some (.inr (.inr (())))
   else
    some (.inl (IntKind.wrap .i64 (p1 + x3),IntKind.wrap .i64 (p2 + 1)))
 else
  some (.inr (.inl p1))
noncomputable def mclearing_Total_l1 (a0:List Int) (p1:Int) (p2:Int):Option (Int ⊕ Unit) :=
 Iter (fun (w:Int × Int)=>mclearing_Total_l1_s a0 w.1 w.2) (p1,p2)
noncomputable def mclearing_Total (a0:List Int):Option (Int) :=
 if decide ((a0.length:Int) > 100) = true then
  some 0
 else
  (mclearing_Total_l1 a0 0 0).bind fun (r5:Int ⊕ Unit)=>Sum.elim (fun z6 =>
  some z6) (fun z7 =>
  some 0) r5
noncomputable def mallongelaw42_sane:Option (Bool) :=
 (mallongelaw42_says 3 [(GDue.mk 0 1 5),(GDue.mk 1 2 3),(GDue.mk 2 0 4)] [3,3,3] [(-1),(-2),0]).bind fun (r1:Bool) =>
 (mallongelaw42_says 2 [(GDue.mk 0 1 5),(GDue.mk 1 0 5)] [5,5] [0,0]).bind fun (r2:Bool) =>
 (mallongelaw42_says 3 [(GDue.mk 0 1 5),(GDue.mk 1 2 5)] [0,0] [0,(-1),(-2)]).bind fun (r3:Bool) =>
 (mallongelaw42_says 2 [(GDue.mk 0 1 2),(GDue.mk 0 1 3),(GDue.mk 1 0 4)] [2,2,4] [0,(-1)]).bind fun (r4:Bool) =>
 (mclearing_Clear 1 [(GDue.mk 0 0 5)]).bind fun (r5:(List Int) × (List Int) × Int) =>
 if r1 = true then
  if r2 = true then
   if r3 = true then
    if r4 = true then
     if (r5.2.2 == 1) = true then
      (mclearing_Total [2,2,4]).bind fun (r6:Int) =>
      if (r6 == 8) = true then
       (mclearing_Right 1 [(GDue.mk 0 0 5)]).bind fun (r7:Bool) =>
       some (!(r7))
      else
       some false
     else
      some false
    else
     some false
   else
    some false
  else
   some false
 else
  some false
noncomputable def mallongeref42_Few_l1_s (a0:Int) (a1:List GDue) (p1:Int):Option ((Int) ⊕ (Unit ⊕ Unit)) :=
 if decide (p1 < (a1.length:Int)) = true then
  if decide (p1 < 20) = true then
   (at? a1 p1).bind fun (x2:GDue) =>
   if decide (x2.Sum > 12) = true then
    (at? a1 p1).bind fun (x3:GDue) =>
    if decide (x3.Sum ≤ 1099511627776) = true then
     some (.inr (.inr (())))
    else
     some (.inl (IntKind.wrap .i64 (p1 + 1)))
   else
    some (.inl (IntKind.wrap .i64 (p1 + 1)))
  else
   some (.inr (.inl ()))
 else
  some (.inr (.inl ()))
noncomputable def mallongeref42_Few_l1 (a0:Int) (a1:List GDue) (p1:Int):Option (Unit ⊕ Unit) :=
 Iter (fun (w:Int)=>mallongeref42_Few_l1_s a0 a1 w) p1
noncomputable def mallongeref42_Few (a0:Int) (a1:List GDue):Option (Bool) :=
 (mallongeref42_Few_l1 a0 a1 0).bind fun (r4:Unit ⊕ Unit)=>Sum.elim (fun z5 =>
 if decide (a0 ≤ 6) = true then
   if decide ((a1.length:Int) ≤ 9) = true then
    some true
   else
    if decide ((a1.length:Int) > 100) = true then
     some (decide ((a1.length:Int) < 200))
    else
     some false
  else
   if decide (a0 > 40) = true then
    if decide ((a1.length:Int) ≤ 9) = true then
     some true
    else
     if decide ((a1.length:Int) > 100) = true then
      some (decide ((a1.length:Int) < 200))
     else
      some false
   else
    some false) (fun z6 =>
 some false) r4
noncomputable def mallongeref42_Right_l1_s (a0:Int) (a1:List GDue) (p1:Int):Option ((Int) ⊕ (Unit ⊕ Unit)) :=
 if decide (p1 < (a1.length:Int)) = true then
  if decide (p1 ≤ 100) = true then
   (at? a1 p1).bind fun (x2:GDue) =>
   if decide (x2.From < 0) = true then
    some (.inr (.inr (())))
   else
    if decide (x2.To < 0) = true then
     some (.inr (.inr (())))
    else
     if decide (x2.From ≥ a0) = true then
      some (.inr (.inr (())))
     else
      if decide (x2.To ≥ a0) = true then
       some (.inr (.inr (())))
      else
       if (x2.From == x2.To) = true then
        some (.inr (.inr (())))
       else
        if decide (x2.Sum < 1) = true then
         some (.inr (.inr (())))
        else
         if decide (x2.Sum > 1099511627776) = true then
          some (.inr (.inr (())))
         else
          some (.inl (IntKind.wrap .i64 (p1 + 1)))
  else
   some (.inr (.inl ()))
 else
  some (.inr (.inl ()))
noncomputable def mallongeref42_Right_l1 (a0:Int) (a1:List GDue) (p1:Int):Option (Unit ⊕ Unit) :=
 Iter (fun (w:Int)=>mallongeref42_Right_l1_s a0 a1 w) p1
noncomputable def mallongeref42_Right (a0:Int) (a1:List GDue):Option (Bool) :=
 (mallongeref42_Right_l1 a0 a1 0).bind fun (r3:Unit ⊕ Unit)=>Sum.elim (fun z4 =>
 if decide (a0 ≥ 0) = true then
   if decide (a0 ≤ 40) = true then
    some (decide ((a1.length:Int) ≤ 100))
   else
    some false
  else
   some false) (fun z5 =>
 some false) r3
noncomputable def mallongeref42_Steps_j1 (a0:List GDue) (a1:List Int) (p1:Int) (x3:GDue) (p5:List GAllongeref42Step):Option ((List GAllongeref42Step)) :=
 (at? a1 p1).bind fun (x6:Int) =>
 if decide (x6 > 0) = true then
  if (p5.length + 1) * 32 ≤ 140737488355328 then
   some (p5 ++ [(GAllongeref42Step.mk p1 x3.To x3.From 1)])
  else none
 else
  some (p5)
noncomputable def mallongeref42_Steps_l2_s (a0:List GDue) (a1:List Int) (p1:Int) (p2:List GAllongeref42Step):Option ((Int × (List GAllongeref42Step)) ⊕ ((List GAllongeref42Step))) :=
 if decide (p1 < (a0.length:Int)) = true then
  (at? a0 p1).bind fun (x3:GDue) =>
  (at? a1 p1).bind fun (x4:Int) =>
  if decide (x4 < x3.Sum) = true then
   if (p2.length + 1) * 32 ≤ 140737488355328 then
    (mallongeref42_Steps_j1 a0 a1 p1 x3 (p2 ++ [(GAllongeref42Step.mk p1 x3.From x3.To (-1))])).bind fun (r8:(List GAllongeref42Step)) =>
    some (.inl (IntKind.wrap .i64 (p1 + 1),r8))
   else none
  else
   (mallongeref42_Steps_j1 a0 a1 p1 x3 p2).bind fun (r9:(List GAllongeref42Step)) =>
   some (.inl (IntKind.wrap .i64 (p1 + 1),r9))
 else
  some (.inr (p2))
noncomputable def mallongeref42_Steps_l2 (a0:List GDue) (a1:List Int) (p1:Int) (p2:List GAllongeref42Step):Option ((List GAllongeref42Step)) :=
 Iter (fun (w:Int × (List GAllongeref42Step))=>mallongeref42_Steps_l2_s a0 a1 w.1 w.2) (p1,p2)
noncomputable def mallongeref42_Steps (a0:List GDue) (a1:List Int) (a2:Int):Option ((List GAllongeref42Step)) :=
 (mallongeref42_Steps_l2 a0 a1 a2 []).bind fun (r11:(List GAllongeref42Step)) =>
 some r11
noncomputable def mallongeref42_Way_l1_s (a0:Int) (a1:List GAllongeref42Step) (a2:Int) (a3:Int) (p1:Int) (p2:List Int):Option ((Int × (List Int)) ⊕ ((List Int))) :=
 if decide (p1 < a0) = true then
  if 0 ≤ p1 ∧ p1.toNat < p2.length then
   (p2[p1.toNat]?).bind fun (x3:Int) =>
   some (.inl (IntKind.wrap .i64 (p1 + 1),p2.set p1.toNat 1099511627776))
  else none
 else
  some (.inr (p2))
noncomputable def mallongeref42_Way_l1 (a0:Int) (a1:List GAllongeref42Step) (a2:Int) (a3:Int) (p1:Int) (p2:List Int):Option ((List Int)) :=
 Iter (fun (w:Int × (List Int))=>mallongeref42_Way_l1_s a0 a1 a2 a3 w.1 w.2) (p1,p2)
noncomputable def mallongeref42_Way_j2 (a0:Int) (a1:List GAllongeref42Step) (a3:Int) (p10:Int) (p11:List Int) (p12:List (List Int)) (p7:Int) (x14:Int) (x15:GAllongeref42Step):Option ((List Int) × (List (List Int))) :=
 (at? a1 p10).bind fun (x27:GAllongeref42Step) =>
 if 0 ≤ x27.To ∧ x27.To.toNat < p11.length then
  (p11[x27.To.toNat]?).bind fun (x28:Int) =>
  (at? a1 p10).bind fun (x29:GAllongeref42Step) =>
  (at? a1 p10).bind fun (x30:GAllongeref42Step) =>
  if 0 ≤ x30.From ∧ x30.From.toNat < p12.length then
   (p12[x30.From.toNat]?).bind fun (x31:List Int) =>
   if (0 + x31.length) * 8 ≤ 140737488355328 then
    if ((([]:List Int) ++ x31).length + 1) * 8 ≤ 140737488355328 then
     if 0 ≤ x29.To ∧ x29.To.toNat < p12.length then
      (p12[x29.To.toNat]?).bind fun (x32:List Int) =>
      some ((p11.set x27.To.toNat (IntKind.wrap .i64 (x14 + x15.Cost)),p12.set x29.To.toNat ((([]:List Int) ++ x31) ++ [p10])))
     else none
    else none
   else none
  else none
 else none
noncomputable def mallongeref42_Way_j3 (a0:Int) (a1:List GAllongeref42Step) (a3:Int) (p10:Int) (p11:List Int) (p12:List (List Int)) (p7:Int) (x14:Int) (x15:GAllongeref42Step) (p22:Bool):Option ((List Int) × (List (List Int))) :=
 (at? a1 p10).bind fun (x23:GAllongeref42Step) =>
 if 0 ≤ x23.From ∧ x23.From.toNat < p11.length then
  (p11[x23.From.toNat]?).bind fun (x24:Int) =>
  if decide (x24 < 1099511627776) = true then
   (at? a1 p10).bind fun (x25:GAllongeref42Step) =>
   if 0 ≤ x25.To ∧ x25.To.toNat < p11.length then
    (p11[x25.To.toNat]?).bind fun (x26:Int) =>
    if decide ((IntKind.wrap .i64 (x14 + x15.Cost)) < x26) = true then
     (mallongeref42_Way_j2 a0 a1 a3 p10 p11 p12 p7 x14 x15).bind fun (r35:(List Int) × (List (List Int))) =>
     some ((r35.1,r35.2))
    else
     if p22 = true then
      (mallongeref42_Way_j2 a0 a1 a3 p10 p11 p12 p7 x14 x15).bind fun (r36:(List Int) × (List (List Int))) =>
      some ((r36.1,r36.2))
     else
      some ((p11,p12))
   else none
  else
   some ((p11,p12))
 else none
noncomputable def mallongeref42_Way_l4_s (a0:Int) (a1:List GAllongeref42Step) (a3:Int) (p7:Int) (p10:Int) (p11:List Int) (p12:List (List Int)):Option ((Int × (List Int) × (List (List Int))) ⊕ ((List Int) × (List (List Int)))) :=
 if decide (p10 < (a1.length:Int)) = true then
  (at? a1 p10).bind fun (x13:GAllongeref42Step) =>
  if 0 ≤ x13.From ∧ x13.From.toNat < p11.length then
   (p11[x13.From.toNat]?).bind fun (x14:Int) =>
   (at? a1 p10).bind fun (x15:GAllongeref42Step) =>
   (at? a1 p10).bind fun (x16:GAllongeref42Step) =>
   if 0 ≤ x16.To ∧ x16.To.toNat < p11.length then
    (p11[x16.To.toNat]?).bind fun (x17:Int) =>
    if ((IntKind.wrap .i64 (x14 + x15.Cost)) == x17) = true then
     (at? a1 p10).bind fun (x18:GAllongeref42Step) =>
     if 0 ≤ x18.From ∧ x18.From.toNat < p12.length then
      (p12[x18.From.toNat]?).bind fun (x19:List Int) =>
      (at? a1 p10).bind fun (x20:GAllongeref42Step) =>
      if 0 ≤ x20.To ∧ x20.To.toNat < p12.length then
       (p12[x20.To.toNat]?).bind fun (x21:List Int) =>
       (mallongeref42_Way_j3 a0 a1 a3 p10 p11 p12 p7 x14 x15 (decide ((IntKind.wrap .i64 ((x19.length:Int) + 1)) < (x21.length:Int)))).bind fun (r39:(List Int) × (List (List Int))) =>
       some (.inl (IntKind.wrap .i64 (p10 + 1),r39.1,r39.2))
      else none
     else none
    else
     (mallongeref42_Way_j3 a0 a1 a3 p10 p11 p12 p7 x14 x15 false).bind fun (r40:(List Int) × (List (List Int))) =>
     some (.inl (IntKind.wrap .i64 (p10 + 1),r40.1,r40.2))
   else none
  else none
 else
  some (.inr ((p11,p12)))
noncomputable def mallongeref42_Way_l4 (a0:Int) (a1:List GAllongeref42Step) (a3:Int) (p7:Int) (p10:Int) (p11:List Int) (p12:List (List Int)):Option ((List Int) × (List (List Int))) :=
 Iter (fun (w:Int × (List Int) × (List (List Int)))=>mallongeref42_Way_l4_s a0 a1 a3 p7 w.1 w.2.1 w.2.2) (p10,p11,p12)
noncomputable def mallongeref42_Way_l5_s (a0:Int) (a1:List GAllongeref42Step) (a3:Int) (p7:Int) (p8:List Int) (p9:List (List Int)):Option ((Int × (List Int) × (List (List Int))) ⊕ ((List Int) × (List (List Int)))) :=
 if decide (p7 < a0) = true then
  (mallongeref42_Way_l4 a0 a1 a3 p7 0 p8 p9).bind fun (r43:(List Int) × (List (List Int))) =>
  some (.inl (IntKind.wrap .i64 (p7 + 1),r43.1,r43.2))
 else
  some (.inr ((p8,p9)))
noncomputable def mallongeref42_Way_l5 (a0:Int) (a1:List GAllongeref42Step) (a3:Int) (p7:Int) (p8:List Int) (p9:List (List Int)):Option ((List Int) × (List (List Int))) :=
 Iter (fun (w:Int × (List Int) × (List (List Int)))=>mallongeref42_Way_l5_s a0 a1 a3 w.1 w.2.1 w.2.2) (p7,p8,p9)
noncomputable def mallongeref42_Way (a0:Int) (a1:List GAllongeref42Step) (a2:Int) (a3:Int):Option (Int × (List Int)) :=
 if 0 ≤ a0 ∧ a0 ≤ a0 ∧ 8 * a0 ≤ 281474976710656 ∧ a0 ≤ 9223372036854775807 then
  if 0 ≤ a0 ∧ a0 ≤ a0 ∧ 24 * a0 ≤ 281474976710656 ∧ a0 ≤ 9223372036854775807 then
   (mallongeref42_Way_l1 a0 a1 a2 a3 0 (List.replicate a0.toNat (0:Int))).bind fun (r5:(List Int)) =>
   if 0 ≤ a2 ∧ a2.toNat < r5.length then
    (r5[a2.toNat]?).bind fun (x6:Int) =>
    (mallongeref42_Way_l5 a0 a1 a3 0 (r5.set a2.toNat 0) (List.replicate a0.toNat ([]:List Int))).bind fun (r46:(List Int) × (List (List Int))) =>
    if 0 ≤ a3 ∧ a3.toNat < r46.1.length then
     (r46.1[a3.toNat]?).bind fun (x47:Int) =>
     if 0 ≤ a3 ∧ a3.toNat < r46.2.length then
      (r46.2[a3.toNat]?).bind fun (x48:List Int) =>
      some (x47,x48)
     else none
    else none
   else none
  else none
 else none
noncomputable def mallongeref42_slack_l1_s (a0:List GDue) (a1:List Int) (a2:List GAllongeref42Step) (a3:List Int) (p1:Int) (p2:Int):Option ((Int × Int) ⊕ (Int)) :=
 if decide (p2 < (a3.length:Int)) = true then
  (at? a3 p2).bind fun (x3:Int) =>
  (at? a2 x3).bind fun (x4:GAllongeref42Step) =>
  (at? a1 x4.Due).bind fun (x5:Int) =>
  if decide (x4.Cost < 0) = true then
   (at? a0 x4.Due).bind fun (x6:GDue) =>
   (at? a1 x4.Due).bind fun (x7:Int) =>
   some (.inl ((if (IntKind.wrap .i64 (x6.Sum - x7)) < p1 then IntKind.wrap .i64 (x6.Sum - x7) else p1),IntKind.wrap .i64 (p2 + 1)))
  else
   some (.inl ((if x5 < p1 then x5 else p1),IntKind.wrap .i64 (p2 + 1)))
 else
  some (.inr (p1))
noncomputable def mallongeref42_slack_l1 (a0:List GDue) (a1:List Int) (a2:List GAllongeref42Step) (a3:List Int) (p1:Int) (p2:Int):Option (Int) :=
 Iter (fun (w:Int × Int)=>mallongeref42_slack_l1_s a0 a1 a2 a3 w.1 w.2) (p1,p2)
noncomputable def mallongeref42_slack (a0:List GDue) (a1:List Int) (a2:List GAllongeref42Step) (a3:List Int) (a4:Int):Option (Int) :=
 (mallongeref42_slack_l1 a0 a1 a2 a3 a4 0).bind fun (r9:Int) =>
 some r9
noncomputable def mallongeref42_turn_l1_s (a0:List GAllongeref42Step) (a1:List Int) (a3:Int) (p1:Int) (p2:List Int):Option ((Int × (List Int)) ⊕ ((List Int))) :=
 if decide (p1 < (a1.length:Int)) = true then
  (at? a1 p1).bind fun (x3:Int) =>
  (at? a0 x3).bind fun (x4:GAllongeref42Step) =>
  (at? a1 p1).bind fun (x5:Int) =>
  (at? a0 x5).bind fun (x6:GAllongeref42Step) =>
  if 0 ≤ x6.Due ∧ x6.Due.toNat < p2.length then
   (p2[x6.Due.toNat]?).bind fun (x7:Int) =>
   (at? a1 p1).bind fun (x8:Int) =>
   (at? a0 x8).bind fun (x9:GAllongeref42Step) =>
   if 0 ≤ x4.Due ∧ x4.Due.toNat < p2.length then
    (p2[x4.Due.toNat]?).bind fun (x10:Int) =>
    some (.inl (IntKind.wrap .i64 (p1 + 1),p2.set x4.Due.toNat (IntKind.wrap .i64 (x7 - (IntKind.wrap .i64 (a3 * x9.Cost))))))
   else none
  else none
 else
  some (.inr (p2))
noncomputable def mallongeref42_turn_l1 (a0:List GAllongeref42Step) (a1:List Int) (a3:Int) (p1:Int) (p2:List Int):Option ((List Int)) :=
 Iter (fun (w:Int × (List Int))=>mallongeref42_turn_l1_s a0 a1 a3 w.1 w.2) (p1,p2)
noncomputable def mallongeref42_turn (a0:List GAllongeref42Step) (a1:List Int) (a2:List Int) (a3:Int):Option ((List Int)) :=
 if (0 + a2.length) * 8 ≤ 140737488355328 then
  (mallongeref42_turn_l1 a0 a1 a3 0 (([]:List Int) ++ a2)).bind fun (r12:(List Int)) =>
  some r12
 else none
noncomputable def mallongeref42_grow_l1_s (a0:Int) (a1:List GDue) (a3:Int) (p1:List Int) (r4:(List GAllongeref42Step)) (p5:Int) (p6:List GAllongeref42Step):Option ((Int × (List GAllongeref42Step)) ⊕ ((List GAllongeref42Step))) :=
 if decide (p5 < (r4.length:Int)) = true then
  (at? r4 p5).bind fun (x7:GAllongeref42Step) =>
  if (x7.Due != a3) = true then
   (at? r4 p5).bind fun (x8:GAllongeref42Step) =>
   if (p6.length + 1) * 32 ≤ 140737488355328 then
    some (.inl (IntKind.wrap .i64 (p5 + 1),p6 ++ [x8]))
   else none
  else
   some (.inl (IntKind.wrap .i64 (p5 + 1),p6))
 else
  some (.inr (p6))
noncomputable def mallongeref42_grow_l1 (a0:Int) (a1:List GDue) (a3:Int) (p1:List Int) (r4:(List GAllongeref42Step)) (p5:Int) (p6:List GAllongeref42Step):Option ((List GAllongeref42Step)) :=
 Iter (fun (w:Int × (List GAllongeref42Step))=>mallongeref42_grow_l1_s a0 a1 a3 p1 r4 w.1 w.2) (p5,p6)
noncomputable def mallongeref42_grow_l2_s (a0:Int) (a1:List GDue) (a3:Int) (p1:List Int):Option (((List Int)) ⊕ (((List Int)) ⊕ ((List Int)))) :=
 (at? p1 a3).bind fun (x2:Int) =>
 (at? a1 a3).bind fun (x3:GDue) =>
 if decide (x2 < x3.Sum) = true then
  if sliceOk a1.length 0 (IntKind.wrap .i64 (a3 + 1)) then
   (mallongeref42_Steps (sliceL a1 0 (IntKind.wrap .i64 (a3 + 1))) p1 0).bind fun (r4:(List GAllongeref42Step)) =>
   (mallongeref42_grow_l1 a0 a1 a3 p1 r4 0 []).bind fun (r10:(List GAllongeref42Step)) =>
   (at? a1 a3).bind fun (x11:GDue) =>
   (at? a1 a3).bind fun (x12:GDue) =>
   (mallongeref42_Way a0 r10 x11.To x12.From).bind fun (r13:Int × (List Int)) =>
   if decide ((IntKind.wrap .i64 (r13.1 - 1)) ≥ 0) = true then
    some (.inr (.inr (p1)))
   else
    (at? a1 a3).bind fun (x14:GDue) =>
    (at? p1 a3).bind fun (x15:Int) =>
    (mallongeref42_slack a1 p1 r10 r13.2 (IntKind.wrap .i64 (x14.Sum - x15))).bind fun (r16:Int) =>
    (mallongeref42_turn r10 r13.2 p1 r16).bind fun (r17:(List Int)) =>
    if 0 ≤ a3 ∧ a3.toNat < r17.length then
     (r17[a3.toNat]?).bind fun (x18:Int) =>
     if 0 ≤ a3 ∧ a3.toNat < r17.length then
      (r17[a3.toNat]?).bind fun (x19:Int) =>
      some (.inl (r17.set a3.toNat (IntKind.wrap .i64 (x18 + r16))))
     else none
    else none
  else none
 else
  some (.inr (.inl p1))
noncomputable def mallongeref42_grow_l2 (a0:Int) (a1:List GDue) (a3:Int) (p1:List Int):Option (((List Int)) ⊕ ((List Int))) :=
 Iter (fun (w:(List Int))=>mallongeref42_grow_l2_s a0 a1 a3 w) p1
noncomputable def mallongeref42_grow (a0:Int) (a1:List GDue) (a2:List Int) (a3:Int):Option ((List Int)) :=
 (mallongeref42_grow_l2 a0 a1 a3 a2).bind fun (r22:((List Int)) ⊕ ((List Int)))=>Sum.elim (fun z23 =>
 some z23) (fun z24 =>
 some z24) r22
noncomputable def mallongeref42_raise_l1_s (a0:Int) (a1:List GDue) (a3:Int) (p1:List Int):Option (((List Int)) ⊕ (((List Int)) ⊕ ((List Int)))) :=
 (at? p1 a3).bind fun (x2:Int) =>
 (at? a1 a3).bind fun (x3:GDue) =>
 if decide (x2 < x3.Sum) = true then
  (mallongeref42_Steps a1 p1 (IntKind.wrap .i64 (a3 + 1))).bind fun (r4:(List GAllongeref42Step)) =>
  (at? a1 a3).bind fun (x5:GDue) =>
  (at? a1 a3).bind fun (x6:GDue) =>
  (mallongeref42_Way a0 r4 x5.To x6.From).bind fun (r7:Int × (List Int)) =>
  if decide (r7.1 > 1) = true then
   some (.inr (.inr (p1)))
  else
   (at? a1 a3).bind fun (x8:GDue) =>
   (at? p1 a3).bind fun (x9:Int) =>
   (mallongeref42_slack a1 p1 r4 r7.2 (IntKind.wrap .i64 (x8.Sum - x9))).bind fun (r10:Int) =>
   (mallongeref42_turn r4 r7.2 p1 r10).bind fun (r11:(List Int)) =>
   if 0 ≤ a3 ∧ a3.toNat < r11.length then
    (r11[a3.toNat]?).bind fun (x12:Int) =>
    if 0 ≤ a3 ∧ a3.toNat < r11.length then
     (r11[a3.toNat]?).bind fun (x13:Int) =>
     some (.inl (r11.set a3.toNat (IntKind.wrap .i64 (x12 + r10))))
    else none
   else none
 else
  some (.inr (.inl p1))
noncomputable def mallongeref42_raise_l1 (a0:Int) (a1:List GDue) (a3:Int) (p1:List Int):Option (((List Int)) ⊕ ((List Int))) :=
 Iter (fun (w:(List Int))=>mallongeref42_raise_l1_s a0 a1 a3 w) p1
noncomputable def mallongeref42_raise (a0:Int) (a1:List GDue) (a2:List Int) (a3:Int):Option ((List Int)) :=
 (mallongeref42_raise_l1 a0 a1 a3 a2).bind fun (r16:((List Int)) ⊕ ((List Int)))=>Sum.elim (fun z17 =>
 some z17) (fun z18 =>
 some z18) r16
noncomputable def mallongeref42_Potentials_l1_s (a0:Int) (p2:Int) (r1:(List GAllongeref42Step)) (p4:Int) (p5:List Int):Option ((Int × (List Int)) ⊕ ((List Int))) :=
 if decide (p4 < a0) = true then
  (mallongeref42_Way a0 r1 p4 p2).bind fun (r6:Int × (List Int)) =>
  if 0 ≤ p2 ∧ p2.toNat < p5.length then
   (p5[p2.toNat]?).bind fun (x7:Int) =>
   if 0 ≤ p2 ∧ p2.toNat < p5.length then
    (p5[p2.toNat]?).bind fun (x8:Int) =>
    some (.inl (IntKind.wrap .i64 (p4 + 1),p5.set p2.toNat (if r6.1 < x7 then r6.1 else x7)))
   else none
  else none
 else
  some (.inr (p5))
noncomputable def mallongeref42_Potentials_l1 (a0:Int) (p2:Int) (r1:(List GAllongeref42Step)) (p4:Int) (p5:List Int):Option ((List Int)) :=
 Iter (fun (w:Int × (List Int))=>mallongeref42_Potentials_l1_s a0 p2 r1 w.1 w.2) (p4,p5)
noncomputable def mallongeref42_Potentials_l2_s (a0:Int) (r1:(List GAllongeref42Step)) (p2:Int) (p3:List Int):Option ((Int × (List Int)) ⊕ ((List Int))) :=
 if decide (p2 < a0) = true then
  (mallongeref42_Potentials_l1 a0 p2 r1 0 p3).bind fun (r10:(List Int)) =>
  some (.inl (IntKind.wrap .i64 (p2 + 1),r10))
 else
  some (.inr (p3))
noncomputable def mallongeref42_Potentials_l2 (a0:Int) (r1:(List GAllongeref42Step)) (p2:Int) (p3:List Int):Option ((List Int)) :=
 Iter (fun (w:Int × (List Int))=>mallongeref42_Potentials_l2_s a0 r1 w.1 w.2) (p2,p3)
noncomputable def mallongeref42_Potentials (a0:Int) (a1:List GDue) (a2:List Int):Option ((List Int)) :=
 (mallongeref42_Steps a1 a2 0).bind fun (r1:(List GAllongeref42Step)) =>
 if 0 ≤ a0 ∧ a0 ≤ a0 ∧ 8 * a0 ≤ 281474976710656 ∧ a0 ≤ 9223372036854775807 then
  (mallongeref42_Potentials_l2 a0 r1 0 (List.replicate a0.toNat (0:Int))).bind fun (r12:(List Int)) =>
  some r12
 else none
noncomputable def mallongeref42_Clear_l1_s (a0:Int) (a1:List GDue) (p2:List Int) (p3:Int):Option (((List Int) × Int) ⊕ ((List Int))) :=
 if decide (p3 < (a1.length:Int)) = true then
  (mallongeref42_grow a0 a1 p2 p3).bind fun (r4:(List Int)) =>
  some (.inl (r4,IntKind.wrap .i64 (p3 + 1)))
 else
  some (.inr (p2))
noncomputable def mallongeref42_Clear_l1 (a0:Int) (a1:List GDue) (p2:List Int) (p3:Int):Option ((List Int)) :=
 Iter (fun (w:(List Int) × Int)=>mallongeref42_Clear_l1_s a0 a1 w.1 w.2) (p2,p3)
noncomputable def mallongeref42_Clear_l2_s (a0:Int) (a1:List GDue) (p7:List Int) (p8:Int):Option (((List Int) × Int) ⊕ ((List Int))) :=
 if decide (p8 < (a1.length:Int)) = true then
  (mallongeref42_raise a0 a1 p7 p8).bind fun (r9:(List Int)) =>
  some (.inl (r9,IntKind.wrap .i64 (p8 + 1)))
 else
  some (.inr (p7))
noncomputable def mallongeref42_Clear_l2 (a0:Int) (a1:List GDue) (p7:List Int) (p8:Int):Option ((List Int)) :=
 Iter (fun (w:(List Int) × Int)=>mallongeref42_Clear_l2_s a0 a1 w.1 w.2) (p7,p8)
noncomputable def mallongeref42_Clear (a0:Int) (a1:List GDue):Option ((List Int) × (List Int) × Int) :=
 (mallongeref42_Right a0 a1).bind fun (r1:Bool) =>
 if (!(r1)) = true then
  some ([],[],1)
 else
  if 0 ≤ (a1.length:Int) ∧ (a1.length:Int) ≤ (a1.length:Int) ∧ 8 * (a1.length:Int) ≤ 281474976710656 ∧ (a1.length:Int) ≤ 9223372036854775807 then
   (mallongeref42_Clear_l1 a0 a1 (List.replicate ((a1.length:Int).toNat) (0:Int)) 0).bind fun (r6:(List Int)) =>
   (mallongeref42_Clear_l2 a0 a1 r6 0).bind fun (r11:(List Int)) =>
   (mallongeref42_Potentials a0 a1 r11).bind fun (r12:(List Int)) =>
   some (r11,r12,0)
  else none
noncomputable def mallongeref42_Total_l1_s (a0:List Int) (p1:Int) (p2:Int):Option ((Int × Int) ⊕ (Int ⊕ Unit)) :=
 if decide (p2 < (a0.length:Int)) = true then
  (at? a0 p2).bind fun (x3:Int) =>
  if decide (x3 < 0) = true then
   some (.inr (.inr (())))
  else
   (at? a0 p2).bind fun (x4:Int) =>
   if decide (x4 > 1099511627776) = true then
    some (.inr (.inr (())))
   else
    if decide ((a0.length:Int) > 100) = true then
     some (.inr (.inr (())))
    else
     (at? a0 p2).bind fun (x5:Int) =>
     some (.inl (IntKind.wrap .i64 (p1 + x5),IntKind.wrap .i64 (p2 + 1)))
 else
  some (.inr (.inl p1))
noncomputable def mallongeref42_Total_l1 (a0:List Int) (p1:Int) (p2:Int):Option (Int ⊕ Unit) :=
 Iter (fun (w:Int × Int)=>mallongeref42_Total_l1_s a0 w.1 w.2) (p1,p2)
noncomputable def mallongeref42_Total (a0:List Int):Option (Int) :=
 (mallongeref42_Total_l1 a0 0 0).bind fun (r7:Int ⊕ Unit)=>Sum.elim (fun z8 =>
 some z8) (fun z9 =>
 some 0) r7
noncomputable def mallongeref42_Balanced_j1 (a0:Int) (a1:List GDue) (a2:List Int) (p1:Int) (p3:Int) (p9:Int):Option (Int) :=
 (at? a1 p3).bind fun (x10:GDue) =>
 if (x10.To == p1) = true then
  (at? a2 p3).bind fun (x11:Int) =>
  some (IntKind.wrap .i64 (p9 + x11))
 else
  some (p9)
noncomputable def mallongeref42_Balanced_l2_s (a0:Int) (a1:List GDue) (a2:List Int) (p1:Int) (p2:Int) (p3:Int):Option ((Int × Int) ⊕ (Int ⊕ Unit)) :=
 if decide (p3 < (a1.length:Int)) = true then
  (at? a2 p3).bind fun (x4:Int) =>
  if decide (x4 < 0) = true then
   some (.inr (.inr (())))
  else
   (at? a2 p3).bind fun (x5:Int) =>
   (at? a1 p3).bind fun (x6:GDue) =>
   if decide (x5 > x6.Sum) = true then
    some (.inr (.inr (())))
   else
    (at? a1 p3).bind fun (x7:GDue) =>
    if (x7.From == p1) = true then
     (at? a2 p3).bind fun (x8:Int) =>
     (mallongeref42_Balanced_j1 a0 a1 a2 p1 p3 (IntKind.wrap .i64 (p2 - x8))).bind fun (r13:Int) =>
     some (.inl (r13,IntKind.wrap .i64 (p3 + 1)))
    else
     (mallongeref42_Balanced_j1 a0 a1 a2 p1 p3 p2).bind fun (r14:Int) =>
     some (.inl (r14,IntKind.wrap .i64 (p3 + 1)))
 else
  some (.inr (.inl p2))
noncomputable def mallongeref42_Balanced_l2 (a0:Int) (a1:List GDue) (a2:List Int) (p1:Int) (p2:Int) (p3:Int):Option (Int ⊕ Unit) :=
 Iter (fun (w:Int × Int)=>mallongeref42_Balanced_l2_s a0 a1 a2 p1 w.1 w.2) (p2,p3)
noncomputable def mallongeref42_Balanced_l3_s (a0:Int) (a1:List GDue) (a2:List Int) (p1:Int):Option ((Int) ⊕ (Unit ⊕ Unit)) :=
 if decide (p1 < a0) = true then
  (mallongeref42_Balanced_l2 a0 a1 a2 p1 0 0).bind fun (r16:Int ⊕ Unit)=>Sum.elim (fun z17 =>
  if (z17 != 0) = true then
    some (.inr (.inr (())))
   else
    some (.inl (IntKind.wrap .i64 (p1 + 1)))) (fun z18 =>
  some (.inr (.inr (())))) r16
 else
  some (.inr (.inl ()))
noncomputable def mallongeref42_Balanced_l3 (a0:Int) (a1:List GDue) (a2:List Int) (p1:Int):Option (Unit ⊕ Unit) :=
 Iter (fun (w:Int)=>mallongeref42_Balanced_l3_s a0 a1 a2 w) p1
noncomputable def mallongeref42_Balanced (a0:Int) (a1:List GDue) (a2:List Int):Option (Bool) :=
 if ((a2.length:Int) != (a1.length:Int)) = true then
  some false
 else
  (mallongeref42_Balanced_l3 a0 a1 a2 0).bind fun (r19:Unit ⊕ Unit)=>Sum.elim (fun z20 =>
  some true) (fun z21 =>
  some false) r19
noncomputable def mallongeref42_Proves_l1_s (a0:Int) (a1:List GDue) (a2:List Int) (a3:List Int) (p3:Int):Option ((Int) ⊕ (Unit ⊕ Unit)) :=
 if decide (p3 < a0) = true then
  (at? a3 p3).bind fun (x4:Int) =>
  if decide (x4 < (-40)) = true then
   some (.inr (.inr (())))
  else
   (at? a3 p3).bind fun (x5:Int) =>
   if decide (x5 > 40) = true then
    some (.inr (.inr (())))
   else
    some (.inl (IntKind.wrap .i64 (p3 + 1)))
 else
  some (.inr (.inl ()))
noncomputable def mallongeref42_Proves_l1 (a0:Int) (a1:List GDue) (a2:List Int) (a3:List Int) (p3:Int):Option (Unit ⊕ Unit) :=
 Iter (fun (w:Int)=>mallongeref42_Proves_l1_s a0 a1 a2 a3 w) p3
noncomputable def mallongeref42_Proves_l2_s (a1:List GDue) (a2:List Int) (a3:List Int) (p9:Int):Option ((Int) ⊕ (Unit ⊕ Unit)) :=
 if decide (p9 < (a1.length:Int)) = true then
  (at? a1 p9).bind fun (x10:GDue) =>
  (at? a3 x10.From).bind fun (x11:Int) =>
  (at? a1 p9).bind fun (x12:GDue) =>
  (at? a3 x12.To).bind fun (x13:Int) =>
  (at? a2 p9).bind fun (x14:Int) =>
  (at? a1 p9).bind fun (x15:GDue) =>
  if decide (x14 < x15.Sum) = true then
   if decide (x13 > (IntKind.wrap .i64 (x11 - 1))) = true then
    some (.inr (.inr (())))
   else
    (at? a2 p9).bind fun (x16:Int) =>
    if decide (x16 > 0) = true then
     if decide (x11 > (IntKind.wrap .i64 (x13 + 1))) = true then
      some (.inr (.inr (())))
     else
      some (.inl (IntKind.wrap .i64 (p9 + 1)))
    else
     some (.inl (IntKind.wrap .i64 (p9 + 1)))
  else
   (at? a2 p9).bind fun (x17:Int) =>
   if decide (x17 > 0) = true then
    if decide (x11 > (IntKind.wrap .i64 (x13 + 1))) = true then
     some (.inr (.inr (())))
    else
     some (.inl (IntKind.wrap .i64 (p9 + 1)))
   else
    some (.inl (IntKind.wrap .i64 (p9 + 1)))
 else
  some (.inr (.inl ()))
noncomputable def mallongeref42_Proves_l2 (a1:List GDue) (a2:List Int) (a3:List Int) (p9:Int):Option (Unit ⊕ Unit) :=
 Iter (fun (w:Int)=>mallongeref42_Proves_l2_s a1 a2 a3 w) p9
noncomputable def mallongeref42_Proves (a0:Int) (a1:List GDue) (a2:List Int) (a3:List Int):Option (Bool) :=
 (mallongeref42_Right a0 a1).bind fun (r1:Bool) =>
 if (!(r1)) = true then
  some false
 else
  (mallongeref42_Balanced a0 a1 a2).bind fun (r2:Bool) =>
  if (!(r2)) = true then
   some false
  else
   if ((a3.length:Int) != a0) = true then
    some false
   else
    (mallongeref42_Proves_l1 a0 a1 a2 a3 0).bind fun (r6:Unit ⊕ Unit)=>Sum.elim (fun z7 =>
    (mallongeref42_Proves_l2 a1 a2 a3 0).bind fun (r18:Unit ⊕ Unit)=>Sum.elim (fun z19 =>
     some true) (fun z20 =>
     some false) r18) (fun z8 =>
    some false) r6
noncomputable def mallongelaw42_ClearingTells (a0:Int) (a1:List GDue) (a2:List Int) (a3:List Int):Option (Bool) :=
 (mallongelaw42_sane).bind fun (r1:Bool) =>
 (mallongeref42_Few a0 a1).bind fun (r2:Bool) =>
 if (!(r2)) = true then
  some r1
 else
  if decide ((a2.length:Int) > 110) = true then
   some r1
  else
   if decide ((a3.length:Int) > 50) = true then
    some r1
   else
    (mclearing_Clear a0 a1).bind fun (r3:(List Int) × (List Int) × Int) =>
    (mallongeref42_Clear a0 a1).bind fun (r4:(List Int) × (List Int) × Int) =>
    if (r3.2.2 != r4.2.2) = true then
     some false
    else
     (mallongeref06_SameInts r3.1 r4.1).bind fun (r5:Bool) =>
     if (!(r5)) = true then
      some false
     else
      (mallongeref06_SameInts r3.2.1 r4.2.1).bind fun (r6:Bool) =>
      if (!(r6)) = true then
       some false
      else
       (mclearing_Right a0 a1).bind fun (r7:Bool) =>
       (mallongeref42_Right a0 a1).bind fun (r8:Bool) =>
       if (!(r7 == r8)) = true then
        some false
       else
        if r1 = true then
         (mclearing_Total a2).bind fun (r9:Int) =>
         (mallongeref42_Total a2).bind fun (r10:Int) =>
         if (r9 == r10) = true then
          (mclearing_Proves a0 a1 a2 a3).bind fun (r11:Bool) =>
          (mallongeref42_Proves a0 a1 a2 a3).bind fun (r12:Bool) =>
          some (r11 == r12)
         else
          some false
        else
         some false
end Go.Proofs.Ytgipgbhlibafhaa
