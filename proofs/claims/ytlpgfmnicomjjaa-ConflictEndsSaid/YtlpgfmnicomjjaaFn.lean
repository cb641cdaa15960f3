/- What the functions compute, as plain definitions. Printed by a program. -/
import Derived.Test.YtlpgfmnicomjjaaTab
set_option linter.unusedVariables false
set_option linter.unusedSimpArgs false
namespace Go.Proofs.Ytlpgfmnicomjjaa
open Vm
open Go.RowKit
noncomputable def mallongelaw19_example (a0:Int) (a1:Bool):Option (GRealm) :=
 some (GRealm.mk [] [] [] [] [(GOrder.mk (⟨#[103,101,110,101,118,97]⟩ : ByteArray) a1 [(GChoice.mk 1 4 true)] []),(GOrder.mk (⟨#[108,111,110,100,111,110]⟩ : ByteArray) false [(GChoice.mk 1 a0 true)] [])] [] [] [])
noncomputable def mconflict_fine_1_s1 (a0:Int) (a1:Int):Option (Bool) :=
 if decide (a0 < 0) = true then
  some true
 else
  some (decide (a0 ≥ a1))
noncomputable def mslices_IndexFunc_int_int_s1_l1_s (a0:List Int) (a1:Int) (p1:Int):Option ((Int) ⊕ (Unit ⊕ Int)) :=
 if decide (p1 < (a0.length:Int)) = true then
  (at? a0 p1).bind fun (x2:Int) =>
  (mconflict_fine_1_s1 x2 a1).bind fun (r3:Bool) =>
  if r3 = true then
   some (.inr (.inr (p1)))
  else
   some (.inl (IntKind.wrap .i64 (p1 + 1)))
 else
  some (.inr (.inl ()))
noncomputable def mslices_IndexFunc_int_int_s1_l1 (a0:List Int) (a1:Int) (p1:Int):Option (Unit ⊕ Int) :=
 Iter (fun (w:Int)=>mslices_IndexFunc_int_int_s1_l1_s a0 a1 w) p1
noncomputable def mslices_IndexFunc_int_int_s1 (a0:List Int) (a1:Int):Option (Int) :=
 (mslices_IndexFunc_int_int_s1_l1 a0 a1 0).bind fun (r5:Unit ⊕ Int)=>Sum.elim (fun z6 =>
 some (-1)) (fun z7 =>
 some z7) r5
noncomputable def mslices_ContainsFunc_int_int_s1 (a0:List Int) (a1:Int):Option (Bool) :=
 (mslices_IndexFunc_int_int_s1 a0 a1).bind fun (r1:Int) =>
 some (decide (r1 ≥ 0))
noncomputable def mconflict_fine (a0:GRealm) (a1:Int) (a2:Int) (a3:List Int):Option (Bool) :=
 if decide (a1 < 0) = true then
  some false
 else
  if decide (a1 ≥ (a0.Orders.length:Int)) = true then
   some false
  else
   if decide (a2 < 0) = true then
    some false
   else
    if decide (a2 ≥ 22) = true then
     some false
    else
     if ((a3.length:Int) != 5) = true then
      some false
     else
      (mslices_ContainsFunc_int_int_s1 a3 (a0.Orders.length:Int)).bind fun (r1:Bool) =>
      some (!(r1))
noncomputable def mconflict_Leads_l1_s (a1:Int) (a2:Int) (a3:List Int) (x2:GOrder) (p3:Int):Option ((Int) ⊕ (Unit ⊕ (Int × Bool))) :=
 if decide (p3 < (x2.Choices.length:Int)) = true then
  (at? x2.Choices p3).bind fun (x4:GChoice) =>
  if (x4.Ask == a2) = true then
   if (x4.By != 0) = true then
    (at? a3 x4.By).bind fun (x5:Int) =>
    some (.inr (.inr ((x5,x4.Whole))))
   else
    some (.inl (IntKind.wrap .i64 (p3 + 1)))
  else
   some (.inl (IntKind.wrap .i64 (p3 + 1)))
 else
  some (.inr (.inl ()))
noncomputable def mconflict_Leads_l1 (a1:Int) (a2:Int) (a3:List Int) (x2:GOrder) (p3:Int):Option (Unit ⊕ (Int × Bool)) :=
 Iter (fun (w:Int)=>mconflict_Leads_l1_s a1 a2 a3 x2 w) p3
noncomputable def mconflict_Leads (a0:GRealm) (a1:Int) (a2:Int) (a3:List Int):Option (Int × Bool) :=
 (mconflict_fine a0 a1 a2 a3).bind fun (r1:Bool) =>
 if (!(r1)) = true then
  some ((-1),false)
 else
  (at? a0.Orders a1).bind fun (x2:GOrder) =>
  (mconflict_Leads_l1 a1 a2 a3 x2 0).bind fun (r8:Unit ⊕ (Int × Bool))=>Sum.elim (fun z9 =>
  some (a1,false)) (fun z10 =>
  some (z10.1,z10.2)) r8
noncomputable def mslices_Index_int_int_l1_s (a0:List Int) (a1:Int) (p1:Int):Option ((Int) ⊕ (Unit ⊕ Int)) :=
 if decide (p1 < (a0.length:Int)) = true then
  (at? a0 p1).bind fun (x2:Int) =>
  if (a1 == x2) = true then
   some (.inr (.inr (p1)))
  else
   some (.inl (IntKind.wrap .i64 (p1 + 1)))
 else
  some (.inr (.inl ()))
noncomputable def mslices_Index_int_int_l1 (a0:List Int) (a1:Int) (p1:Int):Option (Unit ⊕ Int) :=
 Iter (fun (w:Int)=>mslices_Index_int_int_l1_s a0 a1 w) p1
noncomputable def mslices_Index_int_int (a0:List Int) (a1:Int):Option (Int) :=
 (mslices_Index_int_int_l1 a0 a1 0).bind fun (r4:Unit ⊕ Int)=>Sum.elim (fun z5 =>
 some (-1)) (fun z6 =>
 some z6) r4
noncomputable def mslices_Contains_int_int (a0:List Int) (a1:Int):Option (Bool) :=
 (mslices_Index_int_int a0 a1).bind fun (r1:Int) =>
 some (decide (r1 ≥ 0))
noncomputable def mconflict_Law_l1_s (a0:GRealm) (a2:Int) (a3:List Int) (p3:List Int):Option (((List Int)) ⊕ (Int × (List Int))) :=
 if 0 ≤ (IntKind.wrap .i64 ((p3.length:Int) - 1)) ∧ (IntKind.wrap .i64 ((p3.length:Int) - 1)).toNat < p3.length then
  (p3[(IntKind.wrap .i64 ((p3.length:Int) - 1)).toNat]?).bind fun (x4:Int) =>
  (mconflict_Leads a0 x4 a2 a3).bind fun (r5:Int × Bool) =>
  if (r5.1 == x4) = true then
   some (.inr ((0,p3)))
  else
   (mslices_Contains_int_int p3 r5.1).bind fun (r6:Bool) =>
   if (p3.length + 1) * 8 ≤ 140737488355328 then
    if (!(r5.2)) = true then
     some (.inr ((0,p3 ++ [r5.1])))
    else
     if r6 = true then
      (at? a0.Orders r5.1).bind fun (x7:GOrder) =>
      if x7.Accepts = true then
       some (.inr ((0,p3 ++ [r5.1])))
      else
       if r6 = true then
        some (.inr ((12,p3 ++ [r5.1])))
       else
        some (.inl (p3 ++ [r5.1]))
     else
      if r6 = true then
       some (.inr ((12,p3 ++ [r5.1])))
      else
       some (.inl (p3 ++ [r5.1]))
   else none
 else none
noncomputable def mconflict_Law_l1 (a0:GRealm) (a2:Int) (a3:List Int) (p3:List Int):Option (Int × (List Int)) :=
 Iter (fun (w:(List Int))=>mconflict_Law_l1_s a0 a2 a3 w) p3
noncomputable def mconflict_Law (a0:GRealm) (a1:Int) (a2:Int) (a3:List Int):Option ((List Int) × Int) :=
 (mconflict_fine a0 a1 a2 a3).bind fun (r1:Bool) =>
 if (!(r1)) = true then
  some ([],1)
 else
  (at? a3 0).bind fun (x2:Int) =>
  if (x2 != a1) = true then
   some ([],1)
  else
   (mconflict_Law_l1 a0 a2 a3 [a1]).bind fun (r10:Int × (List Int)) =>
   some (r10.2,r10.1)
noncomputable def mallongeref06_SameInts_l1_s (a0:List Int) (a1:List Int) (p1:Int):Option ((Int) ⊕ (Unit ⊕ Unit)) :=
 if decide (p1 < (a0.length:Int)) = true then
  (at? a0 p1).bind fun (x2:Int) =>
  (at? a1 p1).bind fun (x3:Int) =>
  if (x2 != x3) = true then
   some (.inr (.inr (())))
  else
   some (.inl (IntKind.wrap .i64 (p1 + 1)))
 else
  some (.inr (.inl ()))
noncomputable def mallongeref06_SameInts_l1 (a0:List Int) (a1:List Int) (p1:Int):Option (Unit ⊕ Unit) :=
 Iter (fun (w:Int)=>mallongeref06_SameInts_l1_s a0 a1 w) p1
noncomputable def mallongeref06_SameInts (a0:List Int) (a1:List Int):Option (Bool) :=
 if ((a0.length:Int) != (a1.length:Int)) = true then
  some false
 else
  (mallongeref06_SameInts_l1 a0 a1 0).bind fun (r4:Unit ⊕ Unit)=>Sum.elim (fun z5 =>
  some true) (fun z6 =>
  some false) r4
noncomputable def mallongelaw19_sane:Option (Bool) :=
 (mallongelaw19_example 4 true).bind fun (r1:GRealm) =>
 (mconflict_Law r1 0 1 [0,0,0,0,1]).bind fun (r2:(List Int) × Int) =>
 (mconflict_Law r1 0 1 [0,0,0,0,0]).bind fun (r3:(List Int) × Int) =>
 (mallongelaw19_example 2 true).bind fun (r4:GRealm) =>
 (mconflict_Law r4 0 1 [0,0,0,0,1]).bind fun (r5:(List Int) × Int) =>
 (mallongelaw19_example 2 false).bind fun (r6:GRealm) =>
 (mconflict_Law r6 0 1 [0,0,0,0,1]).bind fun (r7:(List Int) × Int) =>
 (mconflict_Law r1 2 1 [0,0,0,0,0]).bind fun (r8:(List Int) × Int) =>
 (mconflict_Leads r1 0 1 [0,0,0,0,1]).bind fun (r9:Int × Bool) =>
 if (r2.2 != 0) = true then
  some false
 else
  if (r3.2 != 0) = true then
   some false
  else
   if (r5.2 != 0) = true then
    some false
   else
    if (r7.2 != 12) = true then
     some false
    else
     if (r8.2 != 1) = true then
      some false
     else
      if (r9.1 != 1) = true then
       some false
      else
       if (!(r9.2)) = true then
        some false
       else
        (mallongeref06_SameInts r2.1 [0,1]).bind fun (r10:Bool) =>
        if r10 = true then
         (mallongeref06_SameInts r3.1 [0]).bind fun (r11:Bool) =>
         if r11 = true then
          (mallongeref06_SameInts r5.1 [0,1,0]).bind fun (r12:Bool) =>
          if r12 = true then
           (mallongeref06_SameInts r7.1 [0,1,0]).bind fun (r13:Bool) =>
           some r13
          else
           some false
         else
          some false
        else
         some false
noncomputable def mallongeref09_Few_l1_s (a0:GRealm) (p1:Int):Option ((Int) ⊕ (Unit ⊕ Unit)) :=
 if decide (p1 < (a0.Cities.length:Int)) = true then
  if decide (p1 < 50) = true then
   (at? a0.Cities p1).bind fun (x2:GCity) =>
   if decide ((x2.Feasts.length:Int) > 70) = true then
    some (.inr (.inr (())))
   else
    (at? a0.Cities p1).bind fun (x3:GCity) =>
    if decide ((x3.Shut.length:Int) > 210) = true then
     some (.inr (.inr (())))
    else
     (at? a0.Cities p1).bind fun (x4:GCity) =>
     if decide ((x4.Rest.length:Int) > 8) = true then
      some (.inr (.inr (())))
     else
      some (.inl (IntKind.wrap .i64 (p1 + 1)))
  else
   some (.inr (.inl ()))
 else
  some (.inr (.inl ()))
noncomputable def mallongeref09_Few_l1 (a0:GRealm) (p1:Int):Option (Unit ⊕ Unit) :=
 Iter (fun (w:Int)=>mallongeref09_Few_l1_s a0 w) p1
noncomputable def mallongeref09_Few_l2_s (a0:GRealm) (p8:Int):Option ((Int) ⊕ (Unit ⊕ Unit)) :=
 if decide (p8 < (a0.Orders.length:Int)) = true then
  if decide (p8 < 50) = true then
   (at? a0.Orders p8).bind fun (x9:GOrder) =>
   if decide ((x9.Choices.length:Int) > 40) = true then
    some (.inr (.inr (())))
   else
    (at? a0.Orders p8).bind fun (x10:GOrder) =>
    if decide ((x10.Rules.length:Int) > 40) = true then
     some (.inr (.inr (())))
    else
     some (.inl (IntKind.wrap .i64 (p8 + 1)))
  else
   some (.inr (.inl ()))
 else
  some (.inr (.inl ()))
noncomputable def mallongeref09_Few_l2 (a0:GRealm) (p8:Int):Option (Unit ⊕ Unit) :=
 Iter (fun (w:Int)=>mallongeref09_Few_l2_s a0 w) p8
noncomputable def mallongeref09_Few (a0:GRealm):Option (Bool) :=
 (mallongeref09_Few_l1 a0 0).bind fun (r5:Unit ⊕ Unit)=>Sum.elim (fun z6 =>
 (mallongeref09_Few_l2 a0 0).bind fun (r11:Unit ⊕ Unit)=>Sum.elim (fun z12 =>
  if decide ((a0.Currencies.length:Int) < 50) = true then
    if decide ((a0.Cities.length:Int) < 50) = true then
     if decide ((a0.Groups.length:Int) < 50) = true then
      if decide ((a0.Firms.length:Int) < 210) = true then
       if decide ((a0.Orders.length:Int) < 50) = true then
        if decide ((a0.Usances.length:Int) < 110) = true then
         if decide ((a0.Rates.length:Int) < 110) = true then
          some (decide ((a0.Halts.length:Int) < 50))
         else
          some false
        else
         some false
       else
        some false
      else
       some false
     else
      some false
    else
     some false
   else
    some false) (fun z13 =>
  some false) r11) (fun z7 =>
 some false) r5
noncomputable def mrealm_names_l1_s (a0:GRealm) (p1:Int) (p2:List ByteArray):Option ((Int × (List ByteArray)) ⊕ ((List ByteArray))) :=
 if decide (p1 < (a0.Cities.length:Int)) = true then
  (at? a0.Cities p1).bind fun (x3:GCity) =>
  if (p2.length + 1) * 16 ≤ 140737488355328 then
   some (.inl (IntKind.wrap .i64 (p1 + 1),p2 ++ [x3.Name]))
  else none
 else
  some (.inr (p2))
noncomputable def mrealm_names_l1 (a0:GRealm) (p1:Int) (p2:List ByteArray):Option ((List ByteArray)) :=
 Iter (fun (w:Int × (List ByteArray))=>mrealm_names_l1_s a0 w.1 w.2) (p1,p2)
noncomputable def mrealm_names_l2_s (a0:GRealm) (r5:(List ByteArray)) (p6:Int) (p7:List ByteArray):Option ((Int × (List ByteArray)) ⊕ ((List ByteArray))) :=
 if decide (p6 < (a0.Firms.length:Int)) = true then
  (at? a0.Firms p6).bind fun (x8:GFirm) =>
  if (p7.length + 1) * 16 ≤ 140737488355328 then
   some (.inl (IntKind.wrap .i64 (p6 + 1),p7 ++ [x8.Name]))
  else none
 else
  some (.inr (p7))
noncomputable def mrealm_names_l2 (a0:GRealm) (r5:(List ByteArray)) (p6:Int) (p7:List ByteArray):Option ((List ByteArray)) :=
 Iter (fun (w:Int × (List ByteArray))=>mrealm_names_l2_s a0 r5 w.1 w.2) (p6,p7)
noncomputable def mrealm_names_l3_s (a0:GRealm) (r10:(List ByteArray)) (r5:(List ByteArray)) (p11:Int) (p12:List ByteArray):Option ((Int × (List ByteArray)) ⊕ ((List ByteArray))) :=
 if decide (p11 < (a0.Orders.length:Int)) = true then
  (at? a0.Orders p11).bind fun (x13:GOrder) =>
  if (p12.length + 1) * 16 ≤ 140737488355328 then
   some (.inl (IntKind.wrap .i64 (p11 + 1),p12 ++ [x13.Name]))
  else none
 else
  some (.inr (p12))
noncomputable def mrealm_names_l3 (a0:GRealm) (r10:(List ByteArray)) (r5:(List ByteArray)) (p11:Int) (p12:List ByteArray):Option ((List ByteArray)) :=
 Iter (fun (w:Int × (List ByteArray))=>mrealm_names_l3_s a0 r10 r5 w.1 w.2) (p11,p12)
noncomputable def mrealm_names (a0:GRealm):Option ((List ByteArray) × (List ByteArray) × (List ByteArray)) :=
 (mrealm_names_l1 a0 0 []).bind fun (r5:(List ByteArray)) =>
 (mrealm_names_l2 a0 r5 0 []).bind fun (r10:(List ByteArray)) =>
 (mrealm_names_l3 a0 r10 r5 0 []).bind fun (r15:(List ByteArray)) =>
 some (r5,r10,r15)
noncomputable def mrealm_isName_j1 (a0:ByteArray) (p1:Int) (x2:Int) (p3:Bool):Option (Unit ⊕ Unit) :=
 if (!(p3)) = true then
  if (p1 == 0) = true then
   some (.inr (()))
  else
   if (x2 != 95) = true then
    if decide (x2 < 48) = true then
     some (.inr (()))
    else
     if decide (x2 > 57) = true then
      some (.inr (()))
     else
      some (.inl ())
   else
    some (.inl ())
 else
  some (.inl ())
noncomputable def mrealm_isName_l2_s (a0:ByteArray) (p1:Int):Option ((Int) ⊕ (Unit ⊕ Unit)) :=
 if decide (p1 < ((bytesL a0).length:Int)) = true then
  (at? (bytesL a0) p1).bind fun (x2:Int) =>
  if decide (x2 ≥ 97) = true then
   if decide (x2 ≤ 122) = true then
    (mrealm_isName_j1 a0 p1 x2 true).bind fun (r4:Unit ⊕ Unit)=>Sum.elim (fun z5 =>
    some (.inl (IntKind.wrap .i64 (p1 + 1)))) (fun z6 =>
    some (.inr (.inr (())))) r4
   else
    if decide (x2 ≥ 65) = true then
     (mrealm_isName_j1 a0 p1 x2 (decide (x2 ≤ 90))).bind fun (r7:Unit ⊕ Unit)=>Sum.elim (fun z8 =>
     some (.inl (IntKind.wrap .i64 (p1 + 1)))) (fun z9 =>
     some (.inr (.inr (())))) r7
    else
     (mrealm_isName_j1 a0 p1 x2 false).bind fun (r10:Unit ⊕ Unit)=>Sum.elim (fun z11 =>
     some (.inl (IntKind.wrap .i64 (p1 + 1)))) (fun z12 =>
     some (.inr (.inr (())))) r10
  else
   if decide (x2 ≥ 65) = true then
    (mrealm_isName_j1 a0 p1 x2 (decide (x2 ≤ 90))).bind fun (r13:Unit ⊕ Unit)=>Sum.elim (fun z14 =>
    some (.inl (IntKind.wrap .i64 (p1 + 1)))) (fun z15 =>
    some (.inr (.inr (())))) r13
   else
    (mrealm_isName_j1 a0 p1 x2 false).bind fun (r16:Unit ⊕ Unit)=>Sum.elim (fun z17 =>
    some (.inl (IntKind.wrap .i64 (p1 + 1)))) (fun z18 =>
    some (.inr (.inr (())))) r16
 else
  some (.inr (.inl ()))
noncomputable def mrealm_isName_l2 (a0:ByteArray) (p1:Int):Option (Unit ⊕ Unit) :=
 Iter (fun (w:Int)=>mrealm_isName_l2_s a0 w) p1
noncomputable def mrealm_isName (a0:ByteArray):Option (Bool) :=
 if (a0.toList == ByteArray.empty.toList) = true then
  some false
 else
  if decide ((a0.size:Int) > 20) = true then
   some false
  else
   (mrealm_isName_l2 a0 0).bind fun (r19:Unit ⊕ Unit)=>Sum.elim (fun z20 =>
   some true) (fun z21 =>
   some false) r19
noncomputable def mslices_Index_string_string_l1_s (a0:List ByteArray) (a1:ByteArray) (p1:Int):Option ((Int) ⊕ (Unit ⊕ Int)) :=
 if decide (p1 < (a0.length:Int)) = true then
  (at? a0 p1).bind fun (x2:ByteArray) =>
  if (a1.toList == x2.toList) = true then
   some (.inr (.inr (p1)))
  else
   some (.inl (IntKind.wrap .i64 (p1 + 1)))
 else
  some (.inr (.inl ()))
noncomputable def mslices_Index_string_string_l1 (a0:List ByteArray) (a1:ByteArray) (p1:Int):Option (Unit ⊕ Int) :=
 Iter (fun (w:Int)=>mslices_Index_string_string_l1_s a0 a1 w) p1
noncomputable def mslices_Index_string_string (a0:List ByteArray) (a1:ByteArray):Option (Int) :=
 (mslices_Index_string_string_l1 a0 a1 0).bind fun (r4:Unit ⊕ Int)=>Sum.elim (fun z5 =>
 some (-1)) (fun z6 =>
 some z6) r4
noncomputable def mslices_Contains_string_string (a0:List ByteArray) (a1:ByteArray):Option (Bool) :=
 (mslices_Index_string_string a0 a1).bind fun (r1:Int) =>
 some (decide (r1 ≥ 0))
noncomputable def mrealm_named (a0:List ByteArray) (a1:Int):Option (Int) :=
 (at? a0 a1).bind fun (x1:ByteArray) =>
 (mrealm_isName x1).bind fun (r2:Bool) =>
 if (!(r2)) = true then
  some 2
 else
  if sliceOk a0.length 0 a1 then
   (at? a0 a1).bind fun (x3:ByteArray) =>
   (mslices_Contains_string_string (sliceL a0 0 a1) x3).bind fun (r4:Bool) =>
   if r4 = true then
    some 5
   else
    some 0
  else none
noncomputable def mrealm_Check_1 (a0:Int):Option (Bool) :=
 some true
noncomputable def mrealm_fits_s1_l1_s (a0:List ByteArray) (p1:Int):Option ((Int) ⊕ (Unit ⊕ Int)) :=
 if decide (p1 < (a0.length:Int)) = true then
  (mrealm_named a0 p1).bind fun (r2:Int) =>
  if (r2 != 0) = true then
   some (.inr (.inr (r2)))
  else
   (mrealm_Check_1 p1).bind fun (r3:Bool) =>
   if (!(r3)) = true then
    some (.inr (.inr (1)))
   else
    some (.inl (IntKind.wrap .i64 (p1 + 1)))
 else
  some (.inr (.inl ()))
noncomputable def mrealm_fits_s1_l1 (a0:List ByteArray) (p1:Int):Option (Unit ⊕ Int) :=
 Iter (fun (w:Int)=>mrealm_fits_s1_l1_s a0 w) p1
noncomputable def mrealm_fits_s1 (a0:List ByteArray) (a1:Int):Option (Int) :=
 if decide ((a0.length:Int) > a1) = true then
  some 6
 else
  (mrealm_fits_s1_l1 a0 0).bind fun (r5:Unit ⊕ Int)=>Sum.elim (fun z6 =>
  some 0) (fun z7 =>
  some z7) r5
noncomputable def mrealm_in (a0:Int) (a1:Int):Option (Bool) :=
 if decide (a0 ≥ 0) = true then
  some (decide (a0 < a1))
 else
  some false
noncomputable def mrealm_rising_l1_s (a0:List Int) (a1:Int) (a2:Int) (p1:Int):Option ((Int) ⊕ (Unit ⊕ Unit)) :=
 if decide (p1 < (a0.length:Int)) = true then
  (at? a0 p1).bind fun (x2:Int) =>
  if decide (x2 < a1) = true then
   some (.inr (.inr (())))
  else
   if decide (x2 > a2) = true then
    some (.inr (.inr (())))
   else
    if decide (p1 > 0) = true then
     (at? a0 (IntKind.wrap .i64 (p1 - 1))).bind fun (x3:Int) =>
     if decide (x2 ≤ x3) = true then
      some (.inr (.inr (())))
     else
      some (.inl (IntKind.wrap .i64 (p1 + 1)))
    else
     some (.inl (IntKind.wrap .i64 (p1 + 1)))
 else
  some (.inr (.inl ()))
noncomputable def mrealm_rising_l1 (a0:List Int) (a1:Int) (a2:Int) (p1:Int):Option (Unit ⊕ Unit) :=
 Iter (fun (w:Int)=>mrealm_rising_l1_s a0 a1 a2 w) p1
noncomputable def mrealm_rising (a0:List Int) (a1:Int) (a2:Int):Option (Bool) :=
 (mrealm_rising_l1 a0 a1 a2 0).bind fun (r4:Unit ⊕ Unit)=>Sum.elim (fun z5 =>
 some true) (fun z6 =>
 some false) r4
noncomputable def mrealm_city_l1_s (a0:GRealm) (a1:GCity) (p1:Int):Option ((Int) ⊕ (Unit ⊕ Unit)) :=
 if decide (p1 < (a1.Feasts.length:Int)) = true then
  (at? a1.Feasts p1).bind fun (x2:Int) =>
  if decide ((x2.tmod 100) < 1) = true then
   some (.inr (.inr (())))
  else
   if decide ((x2.tmod 100) > 31) = true then
    some (.inr (.inr (())))
   else
    some (.inl (IntKind.wrap .i64 (p1 + 1)))
 else
  some (.inr (.inl ()))
noncomputable def mrealm_city_l1 (a0:GRealm) (a1:GCity) (p1:Int):Option (Unit ⊕ Unit) :=
 Iter (fun (w:Int)=>mrealm_city_l1_s a0 a1 w) p1
noncomputable def mrealm_city (a0:GRealm) (a1:GCity):Option (Bool) :=
 (mrealm_city_l1 a0 a1 0).bind fun (r3:Unit ⊕ Unit)=>Sum.elim (fun z4 =>
 if decide ((a1.Feasts.length:Int) > 60) = true then
   some false
  else
   if decide ((a1.Shut.length:Int) > 200) = true then
    some false
   else
    (mrealm_in a1.Order (a0.Orders.length:Int)).bind fun (r6:Bool) =>
    if (!(r6)) = true then
     some false
    else
     (mrealm_in a1.Currency (a0.Currencies.length:Int)).bind fun (r7:Bool) =>
     if (!(r7)) = true then
      some false
     else
      (mrealm_rising a1.Rest 0 6).bind fun (r8:Bool) =>
      if r8 = true then
       (mrealm_rising a1.Feasts 101 1231).bind fun (r9:Bool) =>
       if r9 = true then
        (mrealm_rising a1.Shut 0 100000).bind fun (r10:Bool) =>
        some r10
       else
        some false
      else
       some false) (fun z5 =>
 some false) r3
noncomputable def mrealm_Check_2_s1 (a0:Int) (a1:GRealm):Option (Bool) :=
 (at? a1.Cities a0).bind fun (x1:GCity) =>
 (mrealm_city a1 x1).bind fun (r2:Bool) =>
 some r2
noncomputable def mrealm_fits_s2_l1_s (a0:List ByteArray) (a2:GRealm) (p1:Int):Option ((Int) ⊕ (Unit ⊕ Int)) :=
 if decide (p1 < (a0.length:Int)) = true then
  (mrealm_named a0 p1).bind fun (r2:Int) =>
  if (r2 != 0) = true then
   some (.inr (.inr (r2)))
  else
   (mrealm_Check_2_s1 p1 a2).bind fun (r3:Bool) =>
   if (!(r3)) = true then
    some (.inr (.inr (1)))
   else
    some (.inl (IntKind.wrap .i64 (p1 + 1)))
 else
  some (.inr (.inl ()))
noncomputable def mrealm_fits_s2_l1 (a0:List ByteArray) (a2:GRealm) (p1:Int):Option (Unit ⊕ Int) :=
 Iter (fun (w:Int)=>mrealm_fits_s2_l1_s a0 a2 w) p1
noncomputable def mrealm_fits_s2 (a0:List ByteArray) (a1:Int) (a2:GRealm):Option (Int) :=
 if decide ((a0.length:Int) > a1) = true then
  some 6
 else
  (mrealm_fits_s2_l1 a0 a2 0).bind fun (r5:Unit ⊕ Int)=>Sum.elim (fun z6 =>
  some 0) (fun z7 =>
  some z7) r5
noncomputable def mrealm_Check_3_s1 (a0:Int) (a1:GRealm):Option (Bool) :=
 (at? a1.Firms a0).bind fun (x1:GFirm) =>
 (mrealm_in x1.City (a1.Cities.length:Int)).bind fun (r2:Bool) =>
 if r2 = true then
  (at? a1.Firms a0).bind fun (x3:GFirm) =>
  (mrealm_in x3.Group (a1.Groups.length:Int)).bind fun (r4:Bool) =>
  some r4
 else
  some false
noncomputable def mrealm_fits_s3_l1_s (a0:List ByteArray) (a2:GRealm) (p1:Int):Option ((Int) ⊕ (Unit ⊕ Int)) :=
 if decide (p1 < (a0.length:Int)) = true then
  (mrealm_named a0 p1).bind fun (r2:Int) =>
  if (r2 != 0) = true then
   some (.inr (.inr (r2)))
  else
   (mrealm_Check_3_s1 p1 a2).bind fun (r3:Bool) =>
   if (!(r3)) = true then
    some (.inr (.inr (1)))
   else
    some (.inl (IntKind.wrap .i64 (p1 + 1)))
 else
  some (.inr (.inl ()))
noncomputable def mrealm_fits_s3_l1 (a0:List ByteArray) (a2:GRealm) (p1:Int):Option (Unit ⊕ Int) :=
 Iter (fun (w:Int)=>mrealm_fits_s3_l1_s a0 a2 w) p1
noncomputable def mrealm_fits_s3 (a0:List ByteArray) (a1:Int) (a2:GRealm):Option (Int) :=
 if decide ((a0.length:Int) > a1) = true then
  some 6
 else
  (mrealm_fits_s3_l1 a0 a2 0).bind fun (r5:Unit ⊕ Int)=>Sum.elim (fun z6 =>
  some 0) (fun z7 =>
  some z7) r5
noncomputable def mrealm_order_l1_s (a0:GOrder) (p1:Int) (p2:List Int):Option ((Int × (List Int)) ⊕ (((List Int)) ⊕ Unit)) :=
 if decide (p1 < (a0.Choices.length:Int)) = true then
  (at? a0.Choices p1).bind fun (x3:GChoice) =>
  if (p2.length + 1) * 8 ≤ 140737488355328 then
   (mrealm_in x3.By 5).bind fun (r4:Bool) =>
   if (!(r4)) = true then
    some (.inr (.inr (())))
   else
    some (.inl (IntKind.wrap .i64 (p1 + 1),p2 ++ [x3.Ask]))
  else none
 else
  some (.inr (.inl p2))
noncomputable def mrealm_order_l1 (a0:GOrder) (p1:Int) (p2:List Int):Option (((List Int)) ⊕ Unit) :=
 Iter (fun (w:Int × (List Int))=>mrealm_order_l1_s a0 w.1 w.2) (p1,p2)
noncomputable def mrealm_order_l2_s (a0:GOrder) (z7:(List Int)) (p9:Int) (p10:List Int):Option ((Int × (List Int)) ⊕ ((List Int))) :=
 if decide (p9 < (a0.Rules.length:Int)) = true then
  (at? a0.Rules p9).bind fun (x11:GRule) =>
  if (p10.length + 1) * 8 ≤ 140737488355328 then
   some (.inl (IntKind.wrap .i64 (p9 + 1),p10 ++ [x11.Ask]))
  else none
 else
  some (.inr (p10))
noncomputable def mrealm_order_l2 (a0:GOrder) (z7:(List Int)) (p9:Int) (p10:List Int):Option ((List Int)) :=
 Iter (fun (w:Int × (List Int))=>mrealm_order_l2_s a0 z7 w.1 w.2) (p9,p10)
noncomputable def mrealm_order (a0:GOrder):Option (Bool) :=
 (mrealm_order_l1 a0 0 []).bind fun (r6:((List Int)) ⊕ Unit)=>Sum.elim (fun z7 =>
 (mrealm_order_l2 a0 z7 0 []).bind fun (r13:(List Int)) =>
  (mrealm_rising z7 0 21).bind fun (r14:Bool) =>
  if r14 = true then
   (mrealm_rising r13 0 21).bind fun (r15:Bool) =>
   some r15
  else
   some false) (fun z8 =>
 some false) r6
noncomputable def mrealm_Check_4_s1 (a0:Int) (a1:GRealm):Option (Bool) :=
 (at? a1.Orders a0).bind fun (x1:GOrder) =>
 (mrealm_order x1).bind fun (r2:Bool) =>
 some r2
noncomputable def mrealm_fits_s4_l1_s (a0:List ByteArray) (a2:GRealm) (p1:Int):Option ((Int) ⊕ (Unit ⊕ Int)) :=
 if decide (p1 < (a0.length:Int)) = true then
  (mrealm_named a0 p1).bind fun (r2:Int) =>
  if (r2 != 0) = true then
   some (.inr (.inr (r2)))
  else
   (mrealm_Check_4_s1 p1 a2).bind fun (r3:Bool) =>
   if (!(r3)) = true then
    some (.inr (.inr (1)))
   else
    some (.inl (IntKind.wrap .i64 (p1 + 1)))
 else
  some (.inr (.inl ()))
noncomputable def mrealm_fits_s4_l1 (a0:List ByteArray) (a2:GRealm) (p1:Int):Option (Unit ⊕ Int) :=
 Iter (fun (w:Int)=>mrealm_fits_s4_l1_s a0 a2 w) p1
noncomputable def mrealm_fits_s4 (a0:List ByteArray) (a1:Int) (a2:GRealm):Option (Int) :=
 if decide ((a0.length:Int) > a1) = true then
  some 6
 else
  (mrealm_fits_s4_l1 a0 a2 0).bind fun (r5:Unit ⊕ Int)=>Sum.elim (fun z6 =>
  some 0) (fun z7 =>
  some z7) r5
noncomputable def mrealm_usances_l1_s (a0:GRealm) (p1:Int) (x2:GUsance) (p5:Int):Option ((Int) ⊕ (Unit ⊕ Unit)) :=
 if decide (p5 < ((sliceL a0.Usances 0 p1).length:Int)) = true then
  (at? (sliceL a0.Usances 0 p1) p5).bind fun (x6:GUsance) =>
  if (x6.From == x2.From) = true then
   if (x6.To == x2.To) = true then
    some (.inr (.inr (())))
   else
    some (.inl (IntKind.wrap .i64 (p5 + 1)))
  else
   some (.inl (IntKind.wrap .i64 (p5 + 1)))
 else
  some (.inr (.inl ()))
noncomputable def mrealm_usances_l1 (a0:GRealm) (p1:Int) (x2:GUsance) (p5:Int):Option (Unit ⊕ Unit) :=
 Iter (fun (w:Int)=>mrealm_usances_l1_s a0 p1 x2 w) p5
noncomputable def mrealm_usances_l2_s (a0:GRealm) (p1:Int):Option ((Int) ⊕ (Unit ⊕ Int)) :=
 if decide (p1 < (a0.Usances.length:Int)) = true then
  (at? a0.Usances p1).bind fun (x2:GUsance) =>
  (mrealm_in x2.From (a0.Cities.length:Int)).bind fun (r3:Bool) =>
  if (!(r3)) = true then
   some (.inr (.inr (1)))
  else
   (mrealm_in x2.To (a0.Cities.length:Int)).bind fun (r4:Bool) =>
   if (!(r4)) = true then
    some (.inr (.inr (1)))
   else
    if decide (x2.Days < 1) = true then
     some (.inr (.inr (1)))
    else
     if decide (x2.Days > 20000) = true then
      some (.inr (.inr (1)))
     else
      if sliceOk a0.Usances.length 0 p1 then
       (mrealm_usances_l1 a0 p1 x2 0).bind fun (r7:Unit ⊕ Unit)=>Sum.elim (fun z8 =>
       some (.inl (IntKind.wrap .i64 (p1 + 1)))) (fun z9 =>
       some (.inr (.inr (5)))) r7
      else none
 else
  some (.inr (.inl ()))
noncomputable def mrealm_usances_l2 (a0:GRealm) (p1:Int):Option (Unit ⊕ Int) :=
 Iter (fun (w:Int)=>mrealm_usances_l2_s a0 w) p1
noncomputable def mrealm_usances (a0:GRealm):Option (Int) :=
 if decide ((a0.Usances.length:Int) > 100) = true then
  some 6
 else
  (mrealm_usances_l2 a0 0).bind fun (r11:Unit ⊕ Int)=>Sum.elim (fun z12 =>
  some 0) (fun z13 =>
  some z13) r11
noncomputable def mrealm_rest_l1_s (a0:GRealm) (p1:Int):Option ((Int) ⊕ (Unit ⊕ Unit)) :=
 if decide (p1 < (a0.Rates.length:Int)) = true then
  (at? a0.Rates p1).bind fun (x2:GRate) =>
  (mrealm_in x2.From (a0.Currencies.length:Int)).bind fun (r3:Bool) =>
  if (!(r3)) = true then
   some (.inr (.inr (())))
  else
   (mrealm_in x2.To (a0.Currencies.length:Int)).bind fun (r4:Bool) =>
   if (!(r4)) = true then
    some (.inr (.inr (())))
   else
    if (x2.From == x2.To) = true then
     some (.inr (.inr (())))
    else
     (mrealm_in (IntKind.wrap .i64 (x2.Num - 1)) 1073741824).bind fun (r5:Bool) =>
     if (!(r5)) = true then
      some (.inr (.inr (())))
     else
      (mrealm_in (IntKind.wrap .i64 (x2.Den - 1)) 1073741824).bind fun (r6:Bool) =>
      if (!(r6)) = true then
       some (.inr (.inr (())))
      else
       (mrealm_in x2.Since 100001).bind fun (r7:Bool) =>
       if (!(r7)) = true then
        some (.inr (.inr (())))
       else
        some (.inl (IntKind.wrap .i64 (p1 + 1)))
 else
  some (.inr (.inl ()))
noncomputable def mrealm_rest_l1 (a0:GRealm) (p1:Int):Option (Unit ⊕ Unit) :=
 Iter (fun (w:Int)=>mrealm_rest_l1_s a0 w) p1
noncomputable def mrealm_rest_l2_s (a0:GRealm) (p11:Int):Option ((Int) ⊕ (Unit ⊕ Unit)) :=
 if decide (p11 < (a0.Halts.length:Int)) = true then
  (at? a0.Halts p11).bind fun (x12:GHalt) =>
  (mrealm_in x12.Order (a0.Orders.length:Int)).bind fun (r13:Bool) =>
  if (!(r13)) = true then
   some (.inr (.inr (())))
  else
   if decide (x12.From < 0) = true then
    some (.inr (.inr (())))
   else
    if decide (x12.From > x12.To) = true then
     some (.inr (.inr (())))
    else
     if decide (x12.To > 100000) = true then
      some (.inr (.inr (())))
     else
      some (.inl (IntKind.wrap .i64 (p11 + 1)))
 else
  some (.inr (.inl ()))
noncomputable def mrealm_rest_l2 (a0:GRealm) (p11:Int):Option (Unit ⊕ Unit) :=
 Iter (fun (w:Int)=>mrealm_rest_l2_s a0 w) p11
noncomputable def mrealm_rest (a0:GRealm):Option (Int) :=
 if decide ((a0.Rates.length:Int) > 100) = true then
  some 6
 else
  (mrealm_rest_l1 a0 0).bind fun (r8:Unit ⊕ Unit)=>Sum.elim (fun z9 =>
  if decide ((a0.Halts.length:Int) > 20) = true then
    some 6
   else
    (mrealm_rest_l2 a0 0).bind fun (r14:Unit ⊕ Unit)=>Sum.elim (fun z15 =>
    some 0) (fun z16 =>
    some 1) r14) (fun z10 =>
  some 1) r8
noncomputable def mrealm_Check_l1_s (a0:GRealm) (r1:(List ByteArray) × (List ByteArray) × (List ByteArray)) (p4:Int):Option ((Int) ⊕ (Unit ⊕ Unit)) :=
 if decide (p4 < (a0.Groups.length:Int)) = true then
  (at? a0.Groups p4).bind fun (x5:GGroup) =>
  (mrealm_in x5.Grade 10).bind fun (r6:Bool) =>
  if (!(r6)) = true then
   some (.inr (.inr (())))
  else
   some (.inl (IntKind.wrap .i64 (p4 + 1)))
 else
  some (.inr (.inl ()))
noncomputable def mrealm_Check_l1 (a0:GRealm) (r1:(List ByteArray) × (List ByteArray) × (List ByteArray)) (p4:Int):Option (Unit ⊕ Unit) :=
 Iter (fun (w:Int)=>mrealm_Check_l1_s a0 r1 w) p4
noncomputable def mrealm_Check (a0:GRealm):Option (Int) :=
 (mrealm_names a0).bind fun (r1:(List ByteArray) × (List ByteArray) × (List ByteArray)) =>
 (mrealm_fits_s1 a0.Currencies 8).bind fun (r2:Int) =>
 if (r2 != 0) = true then
  some r2
 else
  (mrealm_fits_s2 r1.1 40 a0).bind fun (r3:Int) =>
  if (r3 != 0) = true then
   some r3
  else
   if decide ((a0.Groups.length:Int) > 20) = true then
    some 6
   else
    (mrealm_Check_l1 a0 r1 0).bind fun (r7:Unit ⊕ Unit)=>Sum.elim (fun z8 =>
    (mrealm_fits_s3 r1.2.1 200 a0).bind fun (r10:Int) =>
     if (r10 != 0) = true then
      some r10
     else
      (mrealm_fits_s4 r1.2.2 20 a0).bind fun (r11:Int) =>
      if (r11 != 0) = true then
       some r11
      else
       (mrealm_usances a0).bind fun (r12:Int) =>
       if (r12 != 0) = true then
        some r12
       else
        (mrealm_rest a0).bind fun (r13:Int) =>
        some r13) (fun z9 =>
    some 1) r7
noncomputable def mgraph_right_l1_s (a0:Int) (a1:List GArr2I) (p1:Int):Option ((Int) ⊕ (Unit ⊕ Unit)) :=
 if decide (p1 < (a1.length:Int)) = true then
  (at? a1 p1).bind fun (x2:GArr2I) =>
  if decide (x2.e0 < 0) = true then
   some (.inr (.inr (())))
  else
   if decide (x2.e0 ≥ a0) = true then
    some (.inr (.inr (())))
   else
    if decide (x2.e1 < 0) = true then
     some (.inr (.inr (())))
    else
     if decide (x2.e1 ≥ a0) = true then
      some (.inr (.inr (())))
     else
      some (.inl (IntKind.wrap .i64 (p1 + 1)))
 else
  some (.inr (.inl ()))
noncomputable def mgraph_right_l1 (a0:Int) (a1:List GArr2I) (p1:Int):Option (Unit ⊕ Unit) :=
 Iter (fun (w:Int)=>mgraph_right_l1_s a0 a1 w) p1
noncomputable def mgraph_right (a0:Int) (a1:List GArr2I):Option (Bool) :=
 if decide (a0 < 0) = true then
  some false
 else
  if decide (a0 > 300) = true then
   some false
  else
   if decide ((a1.length:Int) > 2000) = true then
    some false
   else
    (mgraph_right_l1 a0 a1 0).bind fun (r3:Unit ⊕ Unit)=>Sum.elim (fun z4 =>
    some true) (fun z5 =>
    some false) r3
noncomputable def mgraph_next (a0:Int) (a1:List GArr2I):Option ((List (List Int))):=if okE a0 (a1.map fun e=>(e.e0,e.e1)) = true then some (nextL a0.toNat (a1.map fun e=>(e.e0,e.e1))) else none
noncomputable def mgraph_reach_l1_s (a0:List (List Int)) (x5:List Int) (p6:Int) (p7:List Bool) (p8:List Int):Option ((Int × (List Bool) × (List Int)) ⊕ ((List Bool) × (List Int))) :=
 if decide (p6 < (x5.length:Int)) = true then
  (at? x5 p6).bind fun (x9:Int) =>
  if 0 ≤ x9 ∧ x9.toNat < p7.length then
   (p7[x9.toNat]?).bind fun (x10:Bool) =>
   if (!(x10)) = true then
    if 0 ≤ x9 ∧ x9.toNat < p7.length then
     (p7[x9.toNat]?).bind fun (x11:Bool) =>
     if (p8.length + 1) * 8 ≤ 140737488355328 then
      some (.inl (IntKind.wrap .i64 (p6 + 1),p7.set x9.toNat true,p8 ++ [x9]))
     else none
    else none
   else
    some (.inl (IntKind.wrap .i64 (p6 + 1),p7,p8))
  else none
 else
  some (.inr ((p7,p8)))
noncomputable def mgraph_reach_l1 (a0:List (List Int)) (x5:List Int) (p6:Int) (p7:List Bool) (p8:List Int):Option ((List Bool) × (List Int)) :=
 Iter (fun (w:Int × (List Bool) × (List Int))=>mgraph_reach_l1_s a0 x5 w.1 w.2.1 w.2.2) (p6,p7,p8)
noncomputable def mgraph_reach_l2_s (a0:List (List Int)) (p2:List Bool) (p3:List Int):Option (((List Bool) × (List Int)) ⊕ ((List Bool))) :=
 if decide ((p3.length:Int) > 0) = true then
  if 0 ≤ 0 ∧ 0 < p3.length then
   (p3[0]?).bind fun (x4:Int) =>
   if sliceOk p3.length 1 (p3.length:Int) then
    (at? a0 x4).bind fun (x5:List Int) =>
    (mgraph_reach_l1 a0 x5 0 p2 (sliceL p3 1 (p3.length:Int))).bind fun (r14:(List Bool) × (List Int)) =>
    some (.inl (r14.1,r14.2))
   else none
  else none
 else
  some (.inr (p2))
noncomputable def mgraph_reach_l2 (a0:List (List Int)) (p2:List Bool) (p3:List Int):Option ((List Bool)) :=
 Iter (fun (w:(List Bool) × (List Int))=>mgraph_reach_l2_s a0 w.1 w.2) (p2,p3)
noncomputable def mgraph_reach (a0:List (List Int)) (a1:Int):Option ((List Bool)) :=
 if 0 ≤ (a0.length:Int) ∧ (a0.length:Int) ≤ (a0.length:Int) ∧ 1 * (a0.length:Int) ≤ 281474976710656 ∧ (a0.length:Int) ≤ 9223372036854775807 then
  if 0 ≤ a1 ∧ a1.toNat < (List.replicate ((a0.length:Int).toNat) false).length then
   ((List.replicate ((a0.length:Int).toNat) false)[a1.toNat]?).bind fun (x1:Bool) =>
   (mgraph_reach_l2 a0 ((List.replicate ((a0.length:Int).toNat) false).set a1.toNat true) [a1]).bind fun (r16:(List Bool)) =>
   some r16
  else none
 else none
noncomputable def mgraph_Reach (a0:Int) (a1:List GArr2I) (a2:Int):Option ((List Bool)) :=
 (mgraph_right a0 a1).bind fun (r1:Bool) =>
 if (!(r1)) = true then
  some []
 else
  if decide (a2 < 0) = true then
   some []
  else
   if decide (a2 ≥ a0) = true then
    some []
   else
    (mgraph_next a0 a1).bind fun (r2:(List (List Int))) =>
    (mgraph_reach r2 a2).bind fun (r3:(List Bool)) =>
    some r3
noncomputable def mallongelaw19_edges_l1_s (a0:GRealm) (a1:Int) (a2:Int) (a3:List Int) (p1:Int) (p2:List GArr2I):Option ((Int × (List GArr2I)) ⊕ ((List GArr2I))) :=
 if decide (p1 < (a0.Orders.length:Int)) = true then
  (mconflict_Leads a0 p1 a2 a3).bind fun (r3:Int × Bool) =>
  if r3.2 = true then
   if (r3.1 != p1) = true then
    if decide (r3.1 ≥ 0) = true then
     if (p2.length + 1) * 16 ≤ 140737488355328 then
      some (.inl (IntKind.wrap .i64 (p1 + 1),p2 ++ [(GArr2I.mk p1 r3.1)]))
     else none
    else
     some (.inl (IntKind.wrap .i64 (p1 + 1),p2))
   else
    some (.inl (IntKind.wrap .i64 (p1 + 1),p2))
  else
   some (.inl (IntKind.wrap .i64 (p1 + 1),p2))
 else
  some (.inr (p2))
noncomputable def mallongelaw19_edges_l1 (a0:GRealm) (a1:Int) (a2:Int) (a3:List Int) (p1:Int) (p2:List GArr2I):Option ((List GArr2I)) :=
 Iter (fun (w:Int × (List GArr2I))=>mallongelaw19_edges_l1_s a0 a1 a2 a3 w.1 w.2) (p1,p2)
noncomputable def mallongelaw19_edges_l2_s (a0:GRealm) (r5:(List GArr2I)) (r6:(List Bool)) (p7:Int) (p8:List GArr2I):Option ((Int × (List GArr2I)) ⊕ ((List GArr2I))) :=
 if decide (p7 < (r5.length:Int)) = true then
  if ((r6.length:Int) == (a0.Orders.length:Int)) = true then
   (at? r5 p7).bind fun (x9:GArr2I) =>
   (at? r6 x9.e0).bind fun (x10:Bool) =>
   if x10 = true then
    (at? r5 p7).bind fun (x11:GArr2I) =>
    if (p8.length + 1) * 16 ≤ 140737488355328 then
     some (.inl (IntKind.wrap .i64 (p7 + 1),p8 ++ [x11]))
    else none
   else
    some (.inl (IntKind.wrap .i64 (p7 + 1),p8))
  else
   some (.inr (p8))
 else
  some (.inr (p8))
noncomputable def mallongelaw19_edges_l2 (a0:GRealm) (r5:(List GArr2I)) (r6:(List Bool)) (p7:Int) (p8:List GArr2I):Option ((List GArr2I)) :=
 Iter (fun (w:Int × (List GArr2I))=>mallongelaw19_edges_l2_s a0 r5 r6 w.1 w.2) (p7,p8)
noncomputable def mallongelaw19_edges (a0:GRealm) (a1:Int) (a2:Int) (a3:List Int):Option ((List GArr2I)) :=
 (mallongelaw19_edges_l1 a0 a1 a2 a3 0 []).bind fun (r5:(List GArr2I)) =>
 (mgraph_Reach (a0.Orders.length:Int) r5 a1).bind fun (r6:(List Bool)) =>
 (mallongelaw19_edges_l2 a0 r5 r6 0 []).bind fun (r13:(List GArr2I)) =>
 some r13
noncomputable def mgraph_steps_l1_s (a0:List (List Int)) (a1:Int) (x4:Int) (x5:List Int) (p6:Int) (p7:List Int) (p8:List Int):Option ((Int × (List Int) × (List Int)) ⊕ ((List Int) × (List Int))) :=
 if decide (p6 < (x5.length:Int)) = true then
  (at? x5 p6).bind fun (x9:Int) =>
  if decide (x9 > a1) = true then
   if 0 ≤ x9 ∧ x9.toNat < p8.length then
    (p8[x9.toNat]?).bind fun (x10:Int) =>
    if (x10 == 0) = true then
     if 0 ≤ x4 ∧ x4.toNat < p8.length then
      (p8[x4.toNat]?).bind fun (x11:Int) =>
      if 0 ≤ x9 ∧ x9.toNat < p8.length then
       (p8[x9.toNat]?).bind fun (x12:Int) =>
       if (p7.length + 1) * 8 ≤ 140737488355328 then
        some (.inl (IntKind.wrap .i64 (p6 + 1),p7 ++ [x9],p8.set x9.toNat (IntKind.wrap .i64 (x11 + 1))))
       else none
      else none
     else none
    else
     some (.inl (IntKind.wrap .i64 (p6 + 1),p7,p8))
   else none
  else
   some (.inl (IntKind.wrap .i64 (p6 + 1),p7,p8))
 else
  some (.inr ((p7,p8)))
noncomputable def mgraph_steps_l1 (a0:List (List Int)) (a1:Int) (x4:Int) (x5:List Int) (p6:Int) (p7:List Int) (p8:List Int):Option ((List Int) × (List Int)) :=
 Iter (fun (w:Int × (List Int) × (List Int))=>mgraph_steps_l1_s a0 a1 x4 x5 w.1 w.2.1 w.2.2) (p6,p7,p8)
noncomputable def mgraph_steps_l2_s (a0:List (List Int)) (a1:Int) (p2:List Int) (p3:List Int):Option (((List Int) × (List Int)) ⊕ ((List Int))) :=
 if decide ((p2.length:Int) > 0) = true then
  if 0 ≤ 0 ∧ 0 < p2.length then
   (p2[0]?).bind fun (x4:Int) =>
   if sliceOk p2.length 1 (p2.length:Int) then
    (at? a0 x4).bind fun (x5:List Int) =>
    (mgraph_steps_l1 a0 a1 x4 x5 0 (sliceL p2 1 (p2.length:Int)) p3).bind fun (r15:(List Int) × (List Int)) =>
    some (.inl (r15.1,r15.2))
   else none
  else none
 else
  some (.inr (p3))
noncomputable def mgraph_steps_l2 (a0:List (List Int)) (a1:Int) (p2:List Int) (p3:List Int):Option ((List Int)) :=
 Iter (fun (w:(List Int) × (List Int))=>mgraph_steps_l2_s a0 a1 w.1 w.2) (p2,p3)
noncomputable def mgraph_steps (a0:List (List Int)) (a1:Int) (a2:List Int):Option ((List Int)) :=
 if 0 ≤ a1 ∧ a1.toNat < (List.replicate a2.length (0:Int)).length then
  ((List.replicate a2.length (0:Int))[a1.toNat]?).bind fun (x1:Int) =>
  (mgraph_steps_l2 a0 a1 [a1] ((List.replicate a2.length (0:Int)).set a1.toNat 1)).bind fun (r17:(List Int)) =>
  some r17
 else none
noncomputable def mgraph_Cycle_l1_s (a0:Int) (a1:List GArr2I) (p2:Int) (p3:List GArr2I):Option ((Int × (List GArr2I)) ⊕ ((List GArr2I))) :=
 if decide (p2 < (a1.length:Int)) = true then
  (at? a1 p2).bind fun (x4:GArr2I) =>
  if 0 ≤ p2 ∧ p2.toNat < p3.length then
   (p3[p2.toNat]?).bind fun (x5:GArr2I) =>
   some (.inl (IntKind.wrap .i64 (p2 + 1),p3.set p2.toNat (GArr2I.mk x4.e1 x4.e0)))
  else none
 else
  some (.inr (p3))
noncomputable def mgraph_Cycle_l1 (a0:Int) (a1:List GArr2I) (p2:Int) (p3:List GArr2I):Option ((List GArr2I)) :=
 Iter (fun (w:Int × (List GArr2I))=>mgraph_Cycle_l1_s a0 a1 w.1 w.2) (p2,p3)
noncomputable def mgraph_Cycle_l2_s (a0:Int) (p10:Int) (r12:(List Int)) (r8:(List (List Int))) (r9:(List (List Int))) (x13:List Int) (p14:Int) (p15:Int):Option ((Int × Int) ⊕ (Int)) :=
 if decide (p15 < (x13.length:Int)) = true then
  (at? x13 p15).bind fun (x16:Int) =>
  if decide (x16 ≥ p10) = true then
   if 0 ≤ x16 ∧ x16.toNat < r12.length then
    (r12[x16.toNat]?).bind fun (x17:Int) =>
    if decide (x17 > 0) = true then
     if (p14 == 0) = true then
      if 0 ≤ x16 ∧ x16.toNat < r12.length then
       (r12[x16.toNat]?).bind fun (x19:Int) =>
       some (.inl (x19,IntKind.wrap .i64 (p15 + 1)))
      else none
     else
      if 0 ≤ x16 ∧ x16.toNat < r12.length then
       (r12[x16.toNat]?).bind fun (x18:Int) =>
       if decide (x18 < p14) = true then
        if 0 ≤ x16 ∧ x16.toNat < r12.length then
         (r12[x16.toNat]?).bind fun (x20:Int) =>
         some (.inl (x20,IntKind.wrap .i64 (p15 + 1)))
        else none
       else
        some (.inl (p14,IntKind.wrap .i64 (p15 + 1)))
      else none
    else
     some (.inl (p14,IntKind.wrap .i64 (p15 + 1)))
   else none
  else
   some (.inl (p14,IntKind.wrap .i64 (p15 + 1)))
 else
  some (.inr (p14))
noncomputable def mgraph_Cycle_l2 (a0:Int) (p10:Int) (r12:(List Int)) (r8:(List (List Int))) (r9:(List (List Int))) (x13:List Int) (p14:Int) (p15:Int):Option (Int) :=
 Iter (fun (w:Int × Int)=>mgraph_Cycle_l2_s a0 p10 r12 r8 r9 x13 w.1 w.2) (p14,p15)
noncomputable def mgraph_Cycle_l3_s (a0:Int) (p23:Int) (p25:Int) (p26:List Int) (p27:Int) (p28:List Int) (r8:(List (List Int))) (r9:(List (List Int))) (x30:List Int) (p31:Int):Option ((Int) ⊕ ((List Int))) :=
 if decide (p31 < (x30.length:Int)) = true then
  (at? x30 p31).bind fun (x32:Int) =>
  if decide (x32 > p23) = true then
   if 0 ≤ x32 ∧ x32.toNat < p26.length then
    (p26[x32.toNat]?).bind fun (x33:Int) =>
    if (x33 == p27) = true then
     if (p28.length + 1) * 8 ≤ 140737488355328 then
      some (.inr (p28 ++ [x32]))
     else none
    else
     some (.inl (IntKind.wrap .i64 (p31 + 1)))
   else none
  else
   some (.inl (IntKind.wrap .i64 (p31 + 1)))
 else
  some (.inr (p28))
noncomputable def mgraph_Cycle_l3 (a0:Int) (p23:Int) (p25:Int) (p26:List Int) (p27:Int) (p28:List Int) (r8:(List (List Int))) (r9:(List (List Int))) (x30:List Int) (p31:Int):Option ((List Int)) :=
 Iter (fun (w:Int)=>mgraph_Cycle_l3_s a0 p23 p25 p26 p27 p28 r8 r9 x30 w) p31
noncomputable def mgraph_Cycle_l4_s (a0:Int) (p23:Int) (p25:Int) (p26:List Int) (r8:(List (List Int))) (r9:(List (List Int))) (p27:Int) (p28:List Int):Option ((Int × (List Int)) ⊕ ((List Int))) :=
 if decide (p27 > 1) = true then
  if 0 ≤ (IntKind.wrap .i64 ((p28.length:Int) - 1)) ∧ (IntKind.wrap .i64 ((p28.length:Int) - 1)).toNat < p28.length then
   (p28[(IntKind.wrap .i64 ((p28.length:Int) - 1)).toNat]?).bind fun (x29:Int) =>
   (at? r8 x29).bind fun (x30:List Int) =>
   (mgraph_Cycle_l3 a0 p23 p25 p26 p27 p28 r8 r9 x30 0).bind fun (r35:(List Int)) =>
   some (.inl (IntKind.wrap .i64 (p27 - 1),r35))
  else none
 else
  some (.inr (p28))
noncomputable def mgraph_Cycle_l4 (a0:Int) (p23:Int) (p25:Int) (p26:List Int) (r8:(List (List Int))) (r9:(List (List Int))) (p27:Int) (p28:List Int):Option ((List Int)) :=
 Iter (fun (w:Int × (List Int))=>mgraph_Cycle_l4_s a0 p23 p25 p26 r8 r9 w.1 w.2) (p27,p28)
noncomputable def mgraph_Cycle_j5 (a0:Int) (r8:(List (List Int))) (r9:(List (List Int))) (p23:Int) (p24:Int) (p25:Int) (p26:List Int):Option ((List Int)) :=
 (mgraph_Cycle_l4 a0 p23 p25 p26 r8 r9 p24 [p23]).bind fun (r37:(List Int)) =>
 some (r37)
noncomputable def mgraph_Cycle_l6_s (a0:Int) (r8:(List (List Int))) (r9:(List (List Int))) (p10:Int) (p11:List Int):Option ((Int × (List Int)) ⊕ ((Int × (List Int) × (List Int)) ⊕ Unit)) :=
 if decide (p10 < a0) = true then
  (mgraph_steps r9 p10 p11).bind fun (r12:(List Int)) =>
  (at? r8 p10).bind fun (x13:List Int) =>
  (mgraph_Cycle_l2 a0 p10 r12 r8 r9 x13 0 0).bind fun (r22:Int) =>
  if (r22 == 0) = true then
   some (.inl (IntKind.wrap .i64 (p10 + 1),r12))
  else
   (mgraph_Cycle_j5 a0 r8 r9 p10 r22 p10 r12).bind fun (r39:(List Int)) =>
   some (.inr (.inl (IntKind.wrap .i64 (p10 + 1),r12,r39)))
 else
  some (.inr (.inr (())))
noncomputable def mgraph_Cycle_l6 (a0:Int) (r8:(List (List Int))) (r9:(List (List Int))) (p10:Int) (p11:List Int):Option ((Int × (List Int) × (List Int)) ⊕ Unit) :=
 Iter (fun (w:Int × (List Int))=>mgraph_Cycle_l6_s a0 r8 r9 w.1 w.2) (p10,p11)
noncomputable def mgraph_Cycle_l7_s (a0:Int) (p46:Int) (p48:List Int) (r49:(List Int)) (r8:(List (List Int))) (r9:(List (List Int))) (x50:List Int) (p51:Int) (p52:Int):Option ((Int × Int) ⊕ (Int)) :=
 if decide (p52 < (x50.length:Int)) = true then
  (at? x50 p52).bind fun (x53:Int) =>
  if decide (x53 ≥ p46) = true then
   if 0 ≤ x53 ∧ x53.toNat < r49.length then
    (r49[x53.toNat]?).bind fun (x54:Int) =>
    if decide (x54 > 0) = true then
     if (p51 == 0) = true then
      if 0 ≤ x53 ∧ x53.toNat < r49.length then
       (r49[x53.toNat]?).bind fun (x56:Int) =>
       some (.inl (x56,IntKind.wrap .i64 (p52 + 1)))
      else none
     else
      if 0 ≤ x53 ∧ x53.toNat < r49.length then
       (r49[x53.toNat]?).bind fun (x55:Int) =>
       if decide (x55 < p51) = true then
        if 0 ≤ x53 ∧ x53.toNat < r49.length then
         (r49[x53.toNat]?).bind fun (x57:Int) =>
         some (.inl (x57,IntKind.wrap .i64 (p52 + 1)))
        else none
       else
        some (.inl (p51,IntKind.wrap .i64 (p52 + 1)))
      else none
    else
     some (.inl (p51,IntKind.wrap .i64 (p52 + 1)))
   else none
  else
   some (.inl (p51,IntKind.wrap .i64 (p52 + 1)))
 else
  some (.inr (p51))
noncomputable def mgraph_Cycle_l7 (a0:Int) (p46:Int) (p48:List Int) (r49:(List Int)) (r8:(List (List Int))) (r9:(List (List Int))) (x50:List Int) (p51:Int) (p52:Int):Option (Int) :=
 Iter (fun (w:Int × Int)=>mgraph_Cycle_l7_s a0 p46 p48 r49 r8 r9 x50 w.1 w.2) (p51,p52)
noncomputable def mgraph_Cycle_l8_s (a0:Int) (r8:(List (List Int))) (r9:(List (List Int))) (p46:Int) (p47:List Int) (p48:List Int):Option ((Int × (List Int) × (List Int)) ⊕ ((List Int))) :=
 if decide (p46 < a0) = true then
  (mgraph_steps r9 p46 p47).bind fun (r49:(List Int)) =>
  (at? r8 p46).bind fun (x50:List Int) =>
  (mgraph_Cycle_l7 a0 p46 p48 r49 r8 r9 x50 0 0).bind fun (r59:Int) =>
  if (r59 == 0) = true then
   some (.inl (IntKind.wrap .i64 (p46 + 1),r49,p48))
  else
   if 0 < p48.length then
    if decide (r59 ≥ (p48.length:Int)) = true then
     some (.inl (IntKind.wrap .i64 (p46 + 1),r49,p48))
    else
     (mgraph_Cycle_j5 a0 r8 r9 p46 r59 p46 r49).bind fun (r60:(List Int)) =>
     some (.inl (IntKind.wrap .i64 (p46 + 1),r49,r60))
   else none
 else
  some (.inr (p48))
noncomputable def mgraph_Cycle_l8 (a0:Int) (r8:(List (List Int))) (r9:(List (List Int))) (p46:Int) (p47:List Int) (p48:List Int):Option ((List Int)) :=
 Iter (fun (w:Int × (List Int) × (List Int))=>mgraph_Cycle_l8_s a0 r8 r9 w.1 w.2.1 w.2.2) (p46,p47,p48)
noncomputable def mgraph_Cycle (a0:Int) (a1:List GArr2I):Option ((List Int)) :=
 (mgraph_right a0 a1).bind fun (r1:Bool) =>
 if (!(r1)) = true then
  some []
 else
  if 0 ≤ (a1.length:Int) ∧ (a1.length:Int) ≤ (a1.length:Int) ∧ 16 * (a1.length:Int) ≤ 281474976710656 ∧ (a1.length:Int) ≤ 9223372036854775807 then
   (mgraph_Cycle_l1 a0 a1 0 (List.replicate ((a1.length:Int).toNat) (GArr2I.mk 0 0))).bind fun (r7:(List GArr2I)) =>
   (mgraph_next a0 a1).bind fun (r8:(List (List Int))) =>
   (mgraph_next a0 r7).bind fun (r9:(List (List Int))) =>
   if 0 ≤ a0 ∧ a0 ≤ a0 ∧ 8 * a0 ≤ 281474976710656 ∧ a0 ≤ 9223372036854775807 then
    (mgraph_Cycle_l6 a0 r8 r9 0 (List.replicate a0.toNat 0)).bind fun (r43:(Int × (List Int) × (List Int)) ⊕ Unit)=>Sum.elim (fun z44 =>
    (mgraph_Cycle_l8 a0 r8 r9 z44.1 z44.2.1 z44.2.2).bind fun (r62:(List Int)) =>
     some r62) (fun z45 =>
    some []) r43
   else none
  else none
noncomputable def mallongelaw19_ConflictEnds_l1_s (a0:GRealm) (a2:Int) (a3:List Int) (r1:Bool) (r4:(List Int) × Int) (x7:Int) (p8:Bool) (p9:Int):Option ((Bool × Int) ⊕ (Bool)) :=
 if decide (p9 < (IntKind.wrap .i64 ((r4.1.length:Int) - 1))) = true then
  if p8 = true then
   some (.inl (true,IntKind.wrap .i64 (p9 + 1)))
  else
   (at? r4.1 p9).bind fun (x10:Int) =>
   some (.inl (x10 == x7,IntKind.wrap .i64 (p9 + 1)))
 else
  some (.inr (p8))
noncomputable def mallongelaw19_ConflictEnds_l1 (a0:GRealm) (a2:Int) (a3:List Int) (r1:Bool) (r4:(List Int) × Int) (x7:Int) (p8:Bool) (p9:Int):Option (Bool) :=
 Iter (fun (w:Bool × Int)=>mallongelaw19_ConflictEnds_l1_s a0 a2 a3 r1 r4 x7 w.1 w.2) (p8,p9)
noncomputable def mallongelaw19_ConflictEnds_j2 (a0:GRealm) (r1:Bool) (r12:Bool) (r4:(List Int) × Int) (x7:Int) (p15:Bool):Option (Bool) :=
 if r1 = true then
  if r12 = true then
   if p15 = true then
    (at? a0.Orders x7).bind fun (x16:GOrder) =>
    if ((r4.2 == 12) == (!(x16.Accepts))) = true then
     if (r4.2 == 0) = true then
      some (true)
     else
      some (r4.2 == 12)
    else
     some (false)
   else
    if ((r4.2 == 12) == false) = true then
     if (r4.2 == 0) = true then
      some (true)
     else
      some (r4.2 == 12)
    else
     some (false)
  else
   if ((r4.2 == 12) == false) = true then
    if (r4.2 == 0) = true then
     some (true)
    else
     some (r4.2 == 12)
   else
    some (false)
 else
  some (false)
noncomputable def mallongelaw19_ConflictEnds (a0:GRealm) (a1:Int) (a2:Int) (a3:List Int):Option (Bool) :=
 (mallongelaw19_sane).bind fun (r1:Bool) =>
 (mallongeref09_Few a0).bind fun (r2:Bool) =>
 if (!(r2)) = true then
  some r1
 else
  (mrealm_Check a0).bind fun (r3:Int) =>
  if (r3 != 0) = true then
   some r1
  else
   if decide ((a3.length:Int) > 10) = true then
    some r1
   else
    (mconflict_Law a0 a1 a2 a3).bind fun (r4:(List Int) × Int) =>
    if (r4.2 == 1) = true then
     if r1 = true then
      some ((r4.1.length:Int) == 0)
     else
      some false
    else
     if ((r4.1.length:Int) == 0) = true then
      some false
     else
      (mallongelaw19_edges a0 a1 a2 a3).bind fun (r5:(List GArr2I)) =>
      (mgraph_Cycle (a0.Orders.length:Int) r5).bind fun (r6:(List Int)) =>
      if ((r6.length:Int) == 0) = true then
       if r1 = true then
        some (r4.2 == 0)
       else
        some false
      else
       (at? r4.1 (IntKind.wrap .i64 ((r4.1.length:Int) - 1))).bind fun (x7:Int) =>
       if decide (x7 < 0) = true then
        some false
       else
        if decide (x7 ≥ (a0.Orders.length:Int)) = true then
         some false
        else
         (mallongelaw19_ConflictEnds_l1 a0 a2 a3 r1 r4 x7 false 0).bind fun (r12:Bool) =>
         if decide ((r4.1.length:Int) > 1) = true then
          (at? r4.1 (IntKind.wrap .i64 ((r4.1.length:Int) - 2))).bind fun (x13:Int) =>
          (mconflict_Leads a0 x13 a2 a3).bind fun (r14:Int × Bool) =>
          (mallongelaw19_ConflictEnds_j2 a0 r1 r12 r4 x7 r14.2).bind fun (r18:Bool) =>
          some r18
         else
          (mallongelaw19_ConflictEnds_j2 a0 r1 r12 r4 x7 false).bind fun (r19:Bool) =>
          some r19
end Go.Proofs.Ytlpgfmnicomjjaa
