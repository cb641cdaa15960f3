/- What the functions compute, as plain definitions. Printed by a program. -/
import Derived.Test.YtfhebiceipgdmaaTab
set_option linter.unusedVariables false
set_option linter.unusedSimpArgs false
namespace Go.Proofs.Ytfhebiceipgdmaa
open Vm
open Go.RowKit
noncomputable def mallongelaw12_example:Option (GRealm × GFile) :=
 some ((GRealm.mk [(⟨#[102,114,97,110,99]⟩ : ByteArray)] [(GCity.mk (⟨#[76,121,111,110]⟩ : ByteArray) 0 0 [] [] [])] [(GGroup.mk 0)] [(GFirm.mk (⟨#[65]⟩ : ByteArray) 0 0),(GFirm.mk (⟨#[66]⟩ : ByteArray) 0 0),(GFirm.mk (⟨#[67]⟩ : ByteArray) 0 0)] [(GOrder.mk (⟨#[103,101,110,101,118,97]⟩ : ByteArray) false [] [])] [] [] []),(GFile.mk (GBill.mk 0 1 2 500 0 (GTenor.mk 0 0 0) 10 0 0 (-1) 0 0 2) [(GSign.mk 0 0 0 (-1) (-1) 0 10 0 0),(GSign.mk 2 1 2 (-1) 0 0 11 0 0),(GSign.mk 1 0 1 (-1) (-1) 500 12 0 0)] [] [] []))
noncomputable def mslices_Clone_api_Sign_api_Sign (a0:List GSign):Option ((List GSign)):=if a0.length * 72 ≤ 140737488355328 then some a0 else none
noncomputable def mslices_Clone_api_Alter_api_Alter (a0:List GAlter):Option ((List GAlter)):=if a0.length * 16 ≤ 140737488355328 then some a0 else none
noncomputable def mslices_Clone_api_Act_api_Act (a0:List GAct):Option ((List GAct)):=if a0.length * 72 ≤ 140737488355328 then some a0 else none
noncomputable def mslices_Clone_api_Fact_api_Fact (a0:List GFact):Option ((List GFact)):=if a0.length * 24 ≤ 140737488355328 then some a0 else none
noncomputable def mrealm_names_l1_s (a0:GRealm) (p1:Int) (p2:List ByteArray):Option ((Int × (List ByteArray)) ⊕ ((List ByteArray))) :=
 if decide (p1 < (a0.Cities.length:Int)) = true then
  (at? a0.Cities p1).bind fun (x3:GCity) =>
  if (p2.length + 1) * 16 ≤ 140737488355328 then
   some (.inl (IntKind.wrap .i64 (p1 + 1),p2 ++ [x3.Name]))
  else none
 else
  some (.inr (p2))
noncomputable def mrealm_names_l1 (a0:GRealm) (p1:Int) (p2:List ByteArray):Option ((List ByteArray)) :=
 Iter (fun (w:Int × (List ByteArray))=>mrealm_names_l1_s a0 w.1 w.2) (p1,p2)
noncomputable def mrealm_names_l2_s (a0:GRealm) (r5:(List ByteArray)) (p6:Int) (p7:List ByteArray):Option ((Int × (List ByteArray)) ⊕ ((List ByteArray))) :=
 if decide (p6 < (a0.Firms.length:Int)) = true then
  (at? a0.Firms p6).bind fun (x8:GFirm) =>
  if (p7.length + 1) * 16 ≤ 140737488355328 then
   some (.inl (IntKind.wrap .i64 (p6 + 1),p7 ++ [x8.Name]))
  else none
 else
  some (.inr (p7))
noncomputable def mrealm_names_l2 (a0:GRealm) (r5:(List ByteArray)) (p6:Int) (p7:List ByteArray):Option ((List ByteArray)) :=
 Iter (fun (w:Int × (List ByteArray))=>mrealm_names_l2_s a0 r5 w.1 w.2) (p6,p7)
noncomputable def mrealm_names_l3_s (a0:GRealm) (r10:(List ByteArray)) (r5:(List ByteArray)) (p11:Int) (p12:List ByteArray):Option ((Int × (List ByteArray)) ⊕ ((List ByteArray))) :=
 if decide (p11 < (a0.Orders.length:Int)) = true then
  (at? a0.Orders p11).bind fun (x13:GOrder) =>
  if (p12.length + 1) * 16 ≤ 140737488355328 then
   some (.inl (IntKind.wrap .i64 (p11 + 1),p12 ++ [x13.Name]))
  else none
 else
  some (.inr (p12))
noncomputable def mrealm_names_l3 (a0:GRealm) (r10:(List ByteArray)) (r5:(List ByteArray)) (p11:Int) (p12:List ByteArray):Option ((List ByteArray)) :=
 Iter (fun (w:Int × (List ByteArray))=>mrealm_names_l3_s a0 r10 r5 w.1 w.2) (p11,p12)
noncomputable def mrealm_names (a0:GRealm):Option ((List ByteArray) × (List ByteArray) × (List ByteArray)) :=
 (mrealm_names_l1 a0 0 []).bind fun (r5:(List ByteArray)) =>
 (mrealm_names_l2 a0 r5 0 []).bind fun (r10:(List ByteArray)) =>
 (mrealm_names_l3 a0 r10 r5 0 []).bind fun (r15:(List ByteArray)) =>
 some (r5,r10,r15)
noncomputable def mrealm_isName_j1 (a0:ByteArray) (p1:Int) (x2:Int) (p3:Bool):Option (Unit ⊕ Unit) :=
 if (!(p3)) = true then
  if (p1 == 0) = true then
   some (.inr (()))
  else
   if (x2 != 95) = true then
    if decide (x2 < 48) = true then
     some (.inr (()))
    else
     if decide (x2 > 57) = true then
      some (.inr (()))
     else
      some (.inl ())
   else
    some (.inl ())
 else
  some (.inl ())
noncomputable def mrealm_isName_l2_s (a0:ByteArray) (p1:Int):Option ((Int) ⊕ (Unit ⊕ Unit)) :=
 if decide (p1 < ((bytesL a0).length:Int)) = true then
  (at? (bytesL a0) p1).bind fun (x2:Int) =>
  if decide (x2 ≥ 97) = true then
   if decide (x2 ≤ 122) = true then
    (mrealm_isName_j1 a0 p1 x2 true).bind fun (r4:Unit ⊕ Unit)=>Sum.elim (fun z5 =>
    some (.inl (IntKind.wrap .i64 (p1 + 1)))) (fun z6 =>
    some (.inr (.inr (())))) r4
   else
    if decide (x2 ≥ 65) = true then
     (mrealm_isName_j1 a0 p1 x2 (decide (x2 ≤ 90))).bind fun (r7:Unit ⊕ Unit)=>Sum.elim (fun z8 =>
     some (.inl (IntKind.wrap .i64 (p1 + 1)))) (fun z9 =>
     some (.inr (.inr (())))) r7
    else
     (mrealm_isName_j1 a0 p1 x2 false).bind fun (r10:Unit ⊕ Unit)=>Sum.elim (fun z11 =>
     some (.inl (IntKind.wrap .i64 (p1 + 1)))) (fun z12 =>
     some (.inr (.inr (())))) r10
  else
   if decide (x2 ≥ 65) = true then
    (mrealm_isName_j1 a0 p1 x2 (decide (x2 ≤ 90))).bind fun (r13:Unit ⊕ Unit)=>Sum.elim (fun z14 =>
    some (.inl (IntKind.wrap .i64 (p1 + 1)))) (fun z15 =>
    some (.inr (.inr (())))) r13
   else
    (mrealm_isName_j1 a0 p1 x2 false).bind fun (r16:Unit ⊕ Unit)=>Sum.elim (fun z17 =>
    some (.inl (IntKind.wrap .i64 (p1 + 1)))) (fun z18 =>
    some (.inr (.inr (())))) r16
 else
  some (.inr (.inl ()))
noncomputable def mrealm_isName_l2 (a0:ByteArray) (p1:Int):Option (Unit ⊕ Unit) :=
 Iter (fun (w:Int)=>mrealm_isName_l2_s a0 w) p1
noncomputable def mrealm_isName (a0:ByteArray):Option (Bool) :=
 if (a0.toList == ByteArray.empty.toList) = true then
  some false
 else
  if decide ((a0.size:Int) > 20) = true then
   some false
  else
   (mrealm_isName_l2 a0 0).bind fun (r19:Unit ⊕ Unit)=>Sum.elim (fun z20 =>
   some true) (fun z21 =>
   some false) r19
noncomputable def mslices_Index_string_string_l1_s (a0:List ByteArray) (a1:ByteArray) (p1:Int):Option ((Int) ⊕ (Unit ⊕ Int)) :=
 if decide (p1 < (a0.length:Int)) = true then
  (at? a0 p1).bind fun (x2:ByteArray) =>
  if (a1.toList == x2.toList) = true then
   some (.inr (.inr (p1)))
  else
   some (.inl (IntKind.wrap .i64 (p1 + 1)))
 else
  some (.inr (.inl ()))
noncomputable def mslices_Index_string_string_l1 (a0:List ByteArray) (a1:ByteArray) (p1:Int):Option (Unit ⊕ Int) :=
 Iter (fun (w:Int)=>mslices_Index_string_string_l1_s a0 a1 w) p1
noncomputable def mslices_Index_string_string (a0:List ByteArray) (a1:ByteArray):Option (Int) :=
 (mslices_Index_string_string_l1 a0 a1 0).bind fun (r4:Unit ⊕ Int)=>Sum.elim (fun z5 =>
 some (-1)) (fun z6 =>
 some z6) r4
noncomputable def mslices_Contains_string_string (a0:List ByteArray) (a1:ByteArray):Option (Bool) :=
 (mslices_Index_string_string a0 a1).bind fun (r1:Int) =>
 some (decide (r1 ≥ 0))
noncomputable def mrealm_named (a0:List ByteArray) (a1:Int):Option (Int) :=
 (at? a0 a1).bind fun (x1:ByteArray) =>
 (mrealm_isName x1).bind fun (r2:Bool) =>
 if (!(r2)) = true then
  some 2
 else
  if sliceOk a0.length 0 a1 then
   (at? a0 a1).bind fun (x3:ByteArray) =>
   (mslices_Contains_string_string (sliceL a0 0 a1) x3).bind fun (r4:Bool) =>
   if r4 = true then
    some 5
   else
    some 0
  else none
noncomputable def mrealm_Check_1 (a0:Int):Option (Bool) :=
 some true
noncomputable def mrealm_fits_s1_l1_s (a0:List ByteArray) (p1:Int):Option ((Int) ⊕ (Unit ⊕ Int)) :=
 if decide (p1 < (a0.length:Int)) = true then
  (mrealm_named a0 p1).bind fun (r2:Int) =>
  if (r2 != 0) = true then
   some (.inr (.inr (r2)))
  else
   (mrealm_Check_1 p1).bind fun (r3:Bool) =>
   if (!(r3)) = true then
    some (.inr (.inr (1)))
   else
    some (.inl (IntKind.wrap .i64 (p1 + 1)))
 else
  some (.inr (.inl ()))
noncomputable def mrealm_fits_s1_l1 (a0:List ByteArray) (p1:Int):Option (Unit ⊕ Int) :=
 Iter (fun (w:Int)=>mrealm_fits_s1_l1_s a0 w) p1
noncomputable def mrealm_fits_s1 (a0:List ByteArray) (a1:Int):Option (Int) :=
 if decide ((a0.length:Int) > a1) = true then
  some 6
 else
  (mrealm_fits_s1_l1 a0 0).bind fun (r5:Unit ⊕ Int)=>Sum.elim (fun z6 =>
  some 0) (fun z7 =>
  some z7) r5
noncomputable def mrealm_in (a0:Int) (a1:Int):Option (Bool) :=
 if decide (a0 ≥ 0) = true then
  some (decide (a0 < a1))
 else
  some false
noncomputable def mrealm_rising_l1_s (a0:List Int) (a1:Int) (a2:Int) (p1:Int):Option ((Int) ⊕ (Unit ⊕ Unit)) :=
 if decide (p1 < (a0.length:Int)) = true then
  (at? a0 p1).bind fun (x2:Int) =>
  if decide (x2 < a1) = true then
   some (.inr (.inr (())))
  else
   if decide (x2 > a2) = true then
    some (.inr (.inr (())))
   else
    if decide (p1 > 0) = true then
     (at? a0 (IntKind.wrap .i64 (p1 - 1))).bind fun (x3:Int) =>
     if decide (x2 ≤ x3) = true then
      some (.inr (.inr (())))
     else
      some (.inl (IntKind.wrap .i64 (p1 + 1)))
    else
     some (.inl (IntKind.wrap .i64 (p1 + 1)))
 else
  some (.inr (.inl ()))
noncomputable def mrealm_rising_l1 (a0:List Int) (a1:Int) (a2:Int) (p1:Int):Option (Unit ⊕ Unit) :=
 Iter (fun (w:Int)=>mrealm_rising_l1_s a0 a1 a2 w) p1
noncomputable def mrealm_rising (a0:List Int) (a1:Int) (a2:Int):Option (Bool) :=
 (mrealm_rising_l1 a0 a1 a2 0).bind fun (r4:Unit ⊕ Unit)=>Sum.elim (fun z5 =>
 some true) (fun z6 =>
 some false) r4
noncomputable def mrealm_city_l1_s (a0:GRealm) (a1:GCity) (p1:Int):Option ((Int) ⊕ (Unit ⊕ Unit)) :=
 if decide (p1 < (a1.Feasts.length:Int)) = true then
  (at? a1.Feasts p1).bind fun (x2:Int) =>
  if decide ((x2.tmod 100) < 1) = true then
   some (.inr (.inr (())))
  else
   if decide ((x2.tmod 100) > 31) = true then
    some (.inr (.inr (())))
   else
    some (.inl (IntKind.wrap .i64 (p1 + 1)))
 else
  some (.inr (.inl ()))
noncomputable def mrealm_city_l1 (a0:GRealm) (a1:GCity) (p1:Int):Option (Unit ⊕ Unit) :=
 Iter (fun (w:Int)=>mrealm_city_l1_s a0 a1 w) p1
noncomputable def mrealm_city (a0:GRealm) (a1:GCity):Option (Bool) :=
 (mrealm_city_l1 a0 a1 0).bind fun (r3:Unit ⊕ Unit)=>Sum.elim (fun z4 =>
 if decide ((a1.Feasts.length:Int) > 60) = true then
   some false
  else
   if decide ((a1.Shut.length:Int) > 200) = true then
    some false
   else
    (mrealm_in a1.Order (a0.Orders.length:Int)).bind fun (r6:Bool) =>
    if (!(r6)) = true then
     some false
    else
     (mrealm_in a1.Currency (a0.Currencies.length:Int)).bind fun (r7:Bool) =>
     if (!(r7)) = true then
      some false
     else
      (mrealm_rising a1.Rest 0 6).bind fun (r8:Bool) =>
      if r8 = true then
       (mrealm_rising a1.Feasts 101 1231).bind fun (r9:Bool) =>
       if r9 = true then
        (mrealm_rising a1.Shut 0 100000).bind fun (r10:Bool) =>
        some r10
       else
        some false
      else
       some false) (fun z5 =>
 some false) r3
noncomputable def mrealm_Check_2_s1 (a0:Int) (a1:GRealm):Option (Bool) :=
 (at? a1.Cities a0).bind fun (x1:GCity) =>
 (mrealm_city a1 x1).bind fun (r2:Bool) =>
 some r2
noncomputable def mrealm_fits_s2_l1_s (a0:List ByteArray) (a2:GRealm) (p1:Int):Option ((Int) ⊕ (Unit ⊕ Int)) :=
 if decide (p1 < (a0.length:Int)) = true then
  (mrealm_named a0 p1).bind fun (r2:Int) =>
  if (r2 != 0) = true then
   some (.inr (.inr (r2)))
  else
   (mrealm_Check_2_s1 p1 a2).bind fun (r3:Bool) =>
   if (!(r3)) = true then
    some (.inr (.inr (1)))
   else
    some (.inl (IntKind.wrap .i64 (p1 + 1)))
 else
  some (.inr (.inl ()))
noncomputable def mrealm_fits_s2_l1 (a0:List ByteArray) (a2:GRealm) (p1:Int):Option (Unit ⊕ Int) :=
 Iter (fun (w:Int)=>mrealm_fits_s2_l1_s a0 a2 w) p1
noncomputable def mrealm_fits_s2 (a0:List ByteArray) (a1:Int) (a2:GRealm):Option (Int) :=
 if decide ((a0.length:Int) > a1) = true then
  some 6
 else
  (mrealm_fits_s2_l1 a0 a2 0).bind fun (r5:Unit ⊕ Int)=>Sum.elim (fun z6 =>
  some 0) (fun z7 =>
  some z7) r5
noncomputable def mrealm_Check_3_s1 (a0:Int) (a1:GRealm):Option (Bool) :=
 (at? a1.Firms a0).bind fun (x1:GFirm) =>
 (mrealm_in x1.City (a1.Cities.length:Int)).bind fun (r2:Bool) =>
 if r2 = true then
  (at? a1.Firms a0).bind fun (x3:GFirm) =>
  (mrealm_in x3.Group (a1.Groups.length:Int)).bind fun (r4:Bool) =>
  some r4
 else
  some false
noncomputable def mrealm_fits_s3_l1_s (a0:List ByteArray) (a2:GRealm) (p1:Int):Option ((Int) ⊕ (Unit ⊕ Int)) :=
 if decide (p1 < (a0.length:Int)) = true then
  (mrealm_named a0 p1).bind fun (r2:Int) =>
  if (r2 != 0) = true then
   some (.inr (.inr (r2)))
  else
   (mrealm_Check_3_s1 p1 a2).bind fun (r3:Bool) =>
   if (!(r3)) = true then
    some (.inr (.inr (1)))
   else
    some (.inl (IntKind.wrap .i64 (p1 + 1)))
 else
  some (.inr (.inl ()))
noncomputable def mrealm_fits_s3_l1 (a0:List ByteArray) (a2:GRealm) (p1:Int):Option (Unit ⊕ Int) :=
 Iter (fun (w:Int)=>mrealm_fits_s3_l1_s a0 a2 w) p1
noncomputable def mrealm_fits_s3 (a0:List ByteArray) (a1:Int) (a2:GRealm):Option (Int) :=
 if decide ((a0.length:Int) > a1) = true then
  some 6
 else
  (mrealm_fits_s3_l1 a0 a2 0).bind fun (r5:Unit ⊕ Int)=>Sum.elim (fun z6 =>
  some 0) (fun z7 =>
  some z7) r5
noncomputable def mrealm_order_l1_s (a0:GOrder) (p1:Int) (p2:List Int):Option ((Int × (List Int)) ⊕ (((List Int)) ⊕ Unit)) :=
 if decide (p1 < (a0.Choices.length:Int)) = true then
  (at? a0.Choices p1).bind fun (x3:GChoice) =>
  if (p2.length + 1) * 8 ≤ 140737488355328 then
   (mrealm_in x3.By 5).bind fun (r4:Bool) =>
   if (!(r4)) = true then
    some (.inr (.inr (())))
   else
    some (.inl (IntKind.wrap .i64 (p1 + 1),p2 ++ [x3.Ask]))
  else none
 else
  some (.inr (.inl p2))
noncomputable def mrealm_order_l1 (a0:GOrder) (p1:Int) (p2:List Int):Option (((List Int)) ⊕ Unit) :=
 Iter (fun (w:Int × (List Int))=>mrealm_order_l1_s a0 w.1 w.2) (p1,p2)
noncomputable def mrealm_order_l2_s (a0:GOrder) (z7:(List Int)) (p9:Int) (p10:List Int):Option ((Int × (List Int)) ⊕ ((List Int))) :=
 if decide (p9 < (a0.Rules.length:Int)) = true then
  (at? a0.Rules p9).bind fun (x11:GRule) =>
  if (p10.length + 1) * 8 ≤ 140737488355328 then
   some (.inl (IntKind.wrap .i64 (p9 + 1),p10 ++ [x11.Ask]))
  else none
 else
  some (.inr (p10))
noncomputable def mrealm_order_l2 (a0:GOrder) (z7:(List Int)) (p9:Int) (p10:List Int):Option ((List Int)) :=
 Iter (fun (w:Int × (List Int))=>mrealm_order_l2_s a0 z7 w.1 w.2) (p9,p10)
noncomputable def mrealm_order (a0:GOrder):Option (Bool) :=
 (mrealm_order_l1 a0 0 []).bind fun (r6:((List Int)) ⊕ Unit)=>Sum.elim (fun z7 =>
 (mrealm_order_l2 a0 z7 0 []).bind fun (r13:(List Int)) =>
  (mrealm_rising z7 0 21).bind fun (r14:Bool) =>
  if r14 = true then
   (mrealm_rising r13 0 21).bind fun (r15:Bool) =>
   some r15
  else
   some false) (fun z8 =>
 some false) r6
noncomputable def mrealm_Check_4_s1 (a0:Int) (a1:GRealm):Option (Bool) :=
 (at? a1.Orders a0).bind fun (x1:GOrder) =>
 (mrealm_order x1).bind fun (r2:Bool) =>
 some r2
noncomputable def mrealm_fits_s4_l1_s (a0:List ByteArray) (a2:GRealm) (p1:Int):Option ((Int) ⊕ (Unit ⊕ Int)) :=
 if decide (p1 < (a0.length:Int)) = true then
  (mrealm_named a0 p1).bind fun (r2:Int) =>
  if (r2 != 0) = true then
   some (.inr (.inr (r2)))
  else
   (mrealm_Check_4_s1 p1 a2).bind fun (r3:Bool) =>
   if (!(r3)) = true then
    some (.inr (.inr (1)))
   else
    some (.inl (IntKind.wrap .i64 (p1 + 1)))
 else
  some (.inr (.inl ()))
noncomputable def mrealm_fits_s4_l1 (a0:List ByteArray) (a2:GRealm) (p1:Int):Option (Unit ⊕ Int) :=
 Iter (fun (w:Int)=>mrealm_fits_s4_l1_s a0 a2 w) p1
noncomputable def mrealm_fits_s4 (a0:List ByteArray) (a1:Int) (a2:GRealm):Option (Int) :=
 if decide ((a0.length:Int) > a1) = true then
  some 6
 else
  (mrealm_fits_s4_l1 a0 a2 0).bind fun (r5:Unit ⊕ Int)=>Sum.elim (fun z6 =>
  some 0) (fun z7 =>
  some z7) r5
noncomputable def mrealm_usances_l1_s (a0:GRealm) (p1:Int) (x2:GUsance) (p5:Int):Option ((Int) ⊕ (Unit ⊕ Unit)) :=
 if decide (p5 < ((sliceL a0.Usances 0 p1).length:Int)) = true then
  (at? (sliceL a0.Usances 0 p1) p5).bind fun (x6:GUsance) =>
  if (x6.From == x2.From) = true then
   if (x6.To == x2.To) = true then
    some (.inr (.inr (())))
   else
    some (.inl (IntKind.wrap .i64 (p5 + 1)))
  else
   some (.inl (IntKind.wrap .i64 (p5 + 1)))
 else
  some (.inr (.inl ()))
noncomputable def mrealm_usances_l1 (a0:GRealm) (p1:Int) (x2:GUsance) (p5:Int):Option (Unit ⊕ Unit) :=
 Iter (fun (w:Int)=>mrealm_usances_l1_s a0 p1 x2 w) p5
noncomputable def mrealm_usances_l2_s (a0:GRealm) (p1:Int):Option ((Int) ⊕ (Unit ⊕ Int)) :=
 if decide (p1 < (a0.Usances.length:Int)) = true then
  (at? a0.Usances p1).bind fun (x2:GUsance) =>
  (mrealm_in x2.From (a0.Cities.length:Int)).bind fun (r3:Bool) =>
  if (!(r3)) = true then
   some (.inr (.inr (1)))
  else
   (mrealm_in x2.To (a0.Cities.length:Int)).bind fun (r4:Bool) =>
   if (!(r4)) = true then
    some (.inr (.inr (1)))
   else
    if decide (x2.Days < 1) = true then
     some (.inr (.inr (1)))
    else
     if decide (x2.Days > 20000) = true then
      some (.inr (.inr (1)))
     else
      if sliceOk a0.Usances.length 0 p1 then
       (mrealm_usances_l1 a0 p1 x2 0).bind fun (r7:Unit ⊕ Unit)=>Sum.elim (fun z8 =>
       some (.inl (IntKind.wrap .i64 (p1 + 1)))) (fun z9 =>
       some (.inr (.inr (5)))) r7
      else none
 else
  some (.inr (.inl ()))
noncomputable def mrealm_usances_l2 (a0:GRealm) (p1:Int):Option (Unit ⊕ Int) :=
 Iter (fun (w:Int)=>mrealm_usances_l2_s a0 w) p1
noncomputable def mrealm_usances (a0:GRealm):Option (Int) :=
 if decide ((a0.Usances.length:Int) > 100) = true then
  some 6
 else
  (mrealm_usances_l2 a0 0).bind fun (r11:Unit ⊕ Int)=>Sum.elim (fun z12 =>
  some 0) (fun z13 =>
  some z13) r11
noncomputable def mrealm_rest_l1_s (a0:GRealm) (p1:Int):Option ((Int) ⊕ (Unit ⊕ Unit)) :=
 if decide (p1 < (a0.Rates.length:Int)) = true then
  (at? a0.Rates p1).bind fun (x2:GRate) =>
  (mrealm_in x2.From (a0.Currencies.length:Int)).bind fun (r3:Bool) =>
  if (!(r3)) = true then
   some (.inr (.inr (())))
  else
   (mrealm_in x2.To (a0.Currencies.length:Int)).bind fun (r4:Bool) =>
   if (!(r4)) = true then
    some (.inr (.inr (())))
   else
    if (x2.From == x2.To) = true then
     some (.inr (.inr (())))
    else
     (mrealm_in (IntKind.wrap .i64 (x2.Num - 1)) 1073741824).bind fun (r5:Bool) =>
     if (!(r5)) = true then
      some (.inr (.inr (())))
     else
      (mrealm_in (IntKind.wrap .i64 (x2.Den - 1)) 1073741824).bind fun (r6:Bool) =>
      if (!(r6)) = true then
       some (.inr (.inr (())))
      else
       (mrealm_in x2.Since 100001).bind fun (r7:Bool) =>
       if (!(r7)) = true then
        some (.inr (.inr (())))
       else
        some (.inl (IntKind.wrap .i64 (p1 + 1)))
 else
  some (.inr (.inl ()))
noncomputable def mrealm_rest_l1 (a0:GRealm) (p1:Int):Option (Unit ⊕ Unit) :=
 Iter (fun (w:Int)=>mrealm_rest_l1_s a0 w) p1
noncomputable def mrealm_rest_l2_s (a0:GRealm) (p11:Int):Option ((Int) ⊕ (Unit ⊕ Unit)) :=
 if decide (p11 < (a0.Halts.length:Int)) = true then
  (at? a0.Halts p11).bind fun (x12:GHalt) =>
  (mrealm_in x12.Order (a0.Orders.length:Int)).bind fun (r13:Bool) =>
  if (!(r13)) = true then
   some (.inr (.inr (())))
  else
   if decide (x12.From < 0) = true then
    some (.inr (.inr (())))
   else
    if decide (x12.From > x12.To) = true then
     some (.inr (.inr (())))
    else
     if decide (x12.To > 100000) = true then
      some (.inr (.inr (())))
     else
      some (.inl (IntKind.wrap .i64 (p11 + 1)))
 else
  some (.inr (.inl ()))
noncomputable def mrealm_rest_l2 (a0:GRealm) (p11:Int):Option (Unit ⊕ Unit) :=
 Iter (fun (w:Int)=>mrealm_rest_l2_s a0 w) p11
noncomputable def mrealm_rest (a0:GRealm):Option (Int) :=
 if decide ((a0.Rates.length:Int) > 100) = true then
  some 6
 else
  (mrealm_rest_l1 a0 0).bind fun (r8:Unit ⊕ Unit)=>Sum.elim (fun z9 =>
  if decide ((a0.Halts.length:Int) > 20) = true then
    some 6
   else
    (mrealm_rest_l2 a0 0).bind fun (r14:Unit ⊕ Unit)=>Sum.elim (fun z15 =>
    some 0) (fun z16 =>
    some 1) r14) (fun z10 =>
  some 1) r8
noncomputable def mrealm_Check_l1_s (a0:GRealm) (r1:(List ByteArray) × (List ByteArray) × (List ByteArray)) (p4:Int):Option ((Int) ⊕ (Unit ⊕ Unit)) :=
 if decide (p4 < (a0.Groups.length:Int)) = true then
  (at? a0.Groups p4).bind fun (x5:GGroup) =>
  (mrealm_in x5.Grade 10).bind fun (r6:Bool) =>
  if (!(r6)) = true then
   some (.inr (.inr (())))
  else
   some (.inl (IntKind.wrap .i64 (p4 + 1)))
 else
  some (.inr (.inl ()))
noncomputable def mrealm_Check_l1 (a0:GRealm) (r1:(List ByteArray) × (List ByteArray) × (List ByteArray)) (p4:Int):Option (Unit ⊕ Unit) :=
 Iter (fun (w:Int)=>mrealm_Check_l1_s a0 r1 w) p4
noncomputable def mrealm_Check (a0:GRealm):Option (Int) :=
 (mrealm_names a0).bind fun (r1:(List ByteArray) × (List ByteArray) × (List ByteArray)) =>
 (mrealm_fits_s1 a0.Currencies 8).bind fun (r2:Int) =>
 if (r2 != 0) = true then
  some r2
 else
  (mrealm_fits_s2 r1.1 40 a0).bind fun (r3:Int) =>
  if (r3 != 0) = true then
   some r3
  else
   if decide ((a0.Groups.length:Int) > 20) = true then
    some 6
   else
    (mrealm_Check_l1 a0 r1 0).bind fun (r7:Unit ⊕ Unit)=>Sum.elim (fun z8 =>
    (mrealm_fits_s3 r1.2.1 200 a0).bind fun (r10:Int) =>
     if (r10 != 0) = true then
      some r10
     else
      (mrealm_fits_s4 r1.2.2 20 a0).bind fun (r11:Int) =>
      if (r11 != 0) = true then
       some r11
      else
       (mrealm_usances a0).bind fun (r12:Int) =>
       if (r12 != 0) = true then
        some r12
       else
        (mrealm_rest a0).bind fun (r13:Int) =>
        some r13) (fun z9 =>
    some 1) r7
noncomputable def mwording_index (a0:Int) (a1:Int):Option (Bool) :=
 if decide (a0 ≥ 0) = true then
  some (decide (a0 < a1))
 else
  some false
noncomputable def mwording_tenor_j1 (a0:GBill):Option (Unit ⊕ Bool) :=
 if (a0.Tenor.Kind == 3) = true then
  if decide (a0.Tenor.N ≥ a0.Day) = true then
   if decide (a0.Tenor.N ≤ 100000) = true then
    some (.inr (a0.Tenor.Unit == 0))
   else
    some (.inr (false))
  else
   some (.inr (false))
 else
  some (.inl ())
noncomputable def mwording_tenor_j2 (a0:GBill):Option (Unit ⊕ Bool) :=
 if (a0.Tenor.Kind == 1) = true then
  if (a0.Tenor.Kind == 1) = true then
   if decide (a0.Tenor.N ≥ 1) = true then
    if decide (a0.Tenor.N ≤ 400) = true then
     if (a0.Tenor.Unit == 0) = true then
      some (.inr (true))
     else
      some (.inr (a0.Tenor.Unit == 1))
    else
     some (.inr (false))
   else
    some (.inr (false))
  else
   (mwording_tenor_j1 a0).bind fun (r2:Unit ⊕ Bool)=>Sum.elim (fun z3 =>
   some (.inl ())) (fun z4 =>
   some (.inr (z4))) r2
 else
  if (a0.Tenor.Kind == 2) = true then
   if decide (a0.Tenor.N ≥ 1) = true then
    if decide (a0.Tenor.N ≤ 400) = true then
     if (a0.Tenor.Unit == 0) = true then
      some (.inr (true))
     else
      some (.inr (a0.Tenor.Unit == 1))
    else
     some (.inr (false))
   else
    some (.inr (false))
  else
   (mwording_tenor_j1 a0).bind fun (r5:Unit ⊕ Bool)=>Sum.elim (fun z6 =>
   some (.inl ())) (fun z7 =>
   some (.inr (z7))) r5
noncomputable def mwording_tenor (a0:GBill):Option (Bool) :=
 if (a0.Tenor.Kind == 0) = true then
  if (a0.Tenor.Kind == 0) = true then
   if (a0.Tenor.N == 0) = true then
    some (a0.Tenor.Unit == 0)
   else
    some false
  else
   (mwording_tenor_j2 a0).bind fun (r9:Unit ⊕ Bool)=>Sum.elim (fun z10 =>
   some false) (fun z11 =>
   some z11) r9
 else
  if (a0.Tenor.Kind == 4) = true then
   if (a0.Tenor.N == 0) = true then
    some (a0.Tenor.Unit == 0)
   else
    some false
  else
   (mwording_tenor_j2 a0).bind fun (r12:Unit ⊕ Bool)=>Sum.elim (fun z13 =>
   some false) (fun z14 =>
   some z14) r12
noncomputable def mrealm_Usance_l1_s (a0:GRealm) (a1:Int) (a2:Int) (p1:Int):Option ((Int) ⊕ (Unit ⊕ Int)) :=
 if decide (p1 < (a0.Usances.length:Int)) = true then
  (at? a0.Usances p1).bind fun (x2:GUsance) =>
  if (x2.From == a1) = true then
   if (x2.To == a2) = true then
    some (.inr (.inr (x2.Days)))
   else
    some (.inl (IntKind.wrap .i64 (p1 + 1)))
  else
   some (.inl (IntKind.wrap .i64 (p1 + 1)))
 else
  some (.inr (.inl ()))
noncomputable def mrealm_Usance_l1 (a0:GRealm) (a1:Int) (a2:Int) (p1:Int):Option (Unit ⊕ Int) :=
 Iter (fun (w:Int)=>mrealm_Usance_l1_s a0 a1 a2 w) p1
noncomputable def mrealm_Usance (a0:GRealm) (a1:Int) (a2:Int):Option (Int × Int) :=
 (mrealm_Usance_l1 a0 a1 a2 0).bind fun (r4:Unit ⊕ Int)=>Sum.elim (fun z5 =>
 some (0,4)) (fun z6 =>
 some (z6,0)) r4
noncomputable def mwording_Check_j1 (a0:GRealm) (a1:GBill):Option (Unit ⊕ Unit) :=
 if decide (a1.Flags < 0) = true then
  some (.inr (()))
 else
  if decide (a1.Flags > 7) = true then
   some (.inr (()))
  else
   if ((IntKind.wrap .i64 (BitVec.ofInt (IntKind.bits .i64) a1.Flags &&& BitVec.ofInt (IntKind.bits .i64) 4).toNat) != 0) = true then
    if (a1.Payee == (-1)) = true then
     some (.inr (()))
    else
     (mwording_tenor a1).bind fun (r11:Bool) =>
     if (!(r11)) = true then
      some (.inr (()))
     else
      some (.inl ())
   else
    (mwording_tenor a1).bind fun (r12:Bool) =>
    if (!(r12)) = true then
     some (.inr (()))
    else
     some (.inl ())
noncomputable def mwording_Check_j2 (a0:GRealm) (a1:GBill):Option (Unit ⊕ Int) :=
 if decide (a1.Parts < 1) = true then
  some (.inr (15))
 else
  if decide (a1.Parts > 4) = true then
   some (.inr (15))
  else
   (mwording_Check_j1 a0 a1).bind fun (r13:Unit ⊕ Unit)=>Sum.elim (fun z14 =>
   some (.inl ())) (fun z15 =>
   some (.inr (2))) r13
noncomputable def mwording_Check_j3 (a0:GRealm) (a1:GBill):Option (Unit ⊕ Int) :=
 if decide (a1.Sum < 1) = true then
  some (.inr (3))
 else
  if decide (a1.Sum > 1099511627776) = true then
   some (.inr (3))
  else
   if decide (a1.Day < 0) = true then
    some (.inr (3))
   else
    if decide (a1.Day > 100000) = true then
     some (.inr (3))
    else
     if decide (a1.Rate < 0) = true then
      some (.inr (3))
     else
      if decide (a1.Rate > 1000) = true then
       some (.inr (3))
      else
       (mwording_Check_j2 a0 a1).bind fun (r17:Unit ⊕ Int)=>Sum.elim (fun z18 =>
       some (.inl ())) (fun z19 =>
       some (.inr (z19))) r17
noncomputable def mwording_Check_j4 (a0:GRealm) (a1:GBill) (p7:Bool):Option (Int) :=
 if (!(p7)) = true then
  some (1)
 else
  (mwording_index a1.Currency (a0.Currencies.length:Int)).bind fun (r8:Bool) =>
  if (!(r8)) = true then
   some (1)
  else
   (mwording_index a1.City (a0.Cities.length:Int)).bind fun (r9:Bool) =>
   if (!(r9)) = true then
    some (1)
   else
    (mwording_index a1.Pay (a0.Cities.length:Int)).bind fun (r10:Bool) =>
    if (!(r10)) = true then
     some (1)
    else
     (mwording_Check_j3 a0 a1).bind fun (r21:Unit ⊕ Int)=>Sum.elim (fun z22 =>
     if (a1.Tenor.Kind == 4) = true then
       (mrealm_Usance a0 a1.City a1.Pay).bind fun (r24:Int × Int) =>
       some (r24.2)
      else
       some (0)) (fun z23 =>
     some (z23)) r21
noncomputable def mwording_Check (a0:GRealm) (a1:GBill):Option (Int) :=
 (mrealm_Check a0).bind fun (r1:Int) =>
 if (r1 != 0) = true then
  some r1
 else
  (mwording_index a1.Drawer (a0.Firms.length:Int)).bind fun (r2:Bool) =>
  if r2 = true then
   (mwording_index a1.Drawee (a0.Firms.length:Int)).bind fun (r3:Bool) =>
   if r3 = true then
    if (a1.Payee == (-1)) = true then
     if (a1.Need == (-1)) = true then
      (mwording_Check_j4 a0 a1 true).bind fun (r26:Int) =>
      some r26
     else
      (mwording_index a1.Need (a0.Firms.length:Int)).bind fun (r4:Bool) =>
      (mwording_Check_j4 a0 a1 r4).bind fun (r27:Int) =>
      some r27
    else
     (mwording_index a1.Payee (a0.Firms.length:Int)).bind fun (r5:Bool) =>
     if r5 = true then
      if (a1.Need == (-1)) = true then
       (mwording_Check_j4 a0 a1 true).bind fun (r28:Int) =>
       some r28
      else
       (mwording_index a1.Need (a0.Firms.length:Int)).bind fun (r6:Bool) =>
       (mwording_Check_j4 a0 a1 r6).bind fun (r29:Int) =>
       some r29
     else
      (mwording_Check_j4 a0 a1 false).bind fun (r30:Int) =>
      some r30
   else
    (mwording_Check_j4 a0 a1 false).bind fun (r31:Int) =>
    some r31
  else
   (mwording_Check_j4 a0 a1 false).bind fun (r32:Int) =>
   some r32
noncomputable def mpaper_in (a0:Int) (a1:Int) (a2:Int):Option (Bool) :=
 if decide (a0 ≥ a1) = true then
  some (decide (a0 ≤ a2))
 else
  some false
noncomputable def mpaper_stands (a0:GFile) (a1:Int) (a2:Int):Option (Bool) :=
 if (a1 == 0) = true then
  some true
 else
  (at? a0.Signs a1).bind fun (x1:GSign) =>
  some (x1.Part == a2)
noncomputable def mslices_Index_int_int_l1_s (a0:List Int) (a1:Int) (p1:Int):Option ((Int) ⊕ (Unit ⊕ Int)) :=
 if decide (p1 < (a0.length:Int)) = true then
  (at? a0 p1).bind fun (x2:Int) =>
  if (a1 == x2) = true then
   some (.inr (.inr (p1)))
  else
   some (.inl (IntKind.wrap .i64 (p1 + 1)))
 else
  some (.inr (.inl ()))
noncomputable def mslices_Index_int_int_l1 (a0:List Int) (a1:Int) (p1:Int):Option (Unit ⊕ Int) :=
 Iter (fun (w:Int)=>mslices_Index_int_int_l1_s a0 a1 w) p1
noncomputable def mslices_Index_int_int (a0:List Int) (a1:Int):Option (Int) :=
 (mslices_Index_int_int_l1 a0 a1 0).bind fun (r4:Unit ⊕ Int)=>Sum.elim (fun z5 =>
 some (-1)) (fun z6 =>
 some z6) r4
noncomputable def mslices_Contains_int_int (a0:List Int) (a1:Int):Option (Bool) :=
 (mslices_Index_int_int a0 a1).bind fun (r1:Int) =>
 some (decide (r1 ≥ 0))
noncomputable def mpaper_bears (a0:GFile) (a1:Int) (a2:List Int):Option (Bool) :=
 (at? a0.Signs a1).bind fun (x1:GSign) =>
 (mpaper_in x1.For 0 (IntKind.wrap .i64 (a1 - 1))).bind fun (r2:Bool) =>
 if r2 = true then
  (at? a0.Signs a1).bind fun (x3:GSign) =>
  (mpaper_stands a0 x1.For x3.Part).bind fun (r4:Bool) =>
  if r4 = true then
   (at? a0.Signs x1.For).bind fun (x5:GSign) =>
   (mslices_Contains_int_int a2 x5.Kind).bind fun (r6:Bool) =>
   some r6
  else
   some false
 else
  some false
noncomputable def mpaper_fits_j1 (a0:GRealm) (a1:GFile) (a2:Int) (p2:Bool) (x1:GSign) (p4:Bool):Option (Bool) :=
 if (x1.Kind == 0) = true then
  if (x1.Who == a1.Bill.Drawer) = true then
   if (x1.Sum == 0) = true then
    if ((IntKind.wrap .i64 (BitVec.ofInt (IntKind.bits .i64) x1.Flags ||| BitVec.ofInt (IntKind.bits .i64) 1).toNat) == 1) = true then
     if (x1.Part == 0) = true then
      if (x1.Day == a1.Bill.Day) = true then
       some (x1.City == a1.Bill.City)
      else
       some (false)
     else
      some (false)
    else
     some (false)
   else
    some (false)
  else
   some (false)
 else
  if (x1.Kind == 1) = true then
   if (x1.Who == a1.Bill.Drawee) = true then
    some (p4)
   else
    some (false)
  else
   if (x1.Kind == 2) = true then
    (mpaper_in x1.To (-1) (IntKind.wrap .i64 ((a0.Firms.length:Int) - 1))).bind fun (r5:Bool) =>
    if r5 = true then
     if (x1.Sum == 0) = true then
      (mpaper_in x1.Flags 0 7).bind fun (r6:Bool) =>
      if r6 = true then
       some ((IntKind.wrap .i64 (BitVec.ofInt (IntKind.bits .i64) x1.Flags &&& BitVec.ofInt (IntKind.bits .i64) 6).toNat) != 6)
      else
       some (false)
     else
      some (false)
    else
     some (false)
   else
    if (x1.Kind == 3) = true then
     if p2 = true then
      (mpaper_bears a1 a2 [0,1,2,4]).bind fun (r7:Bool) =>
      some (r7)
     else
      some (false)
    else
     if (x1.Kind == 4) = true then
      if p4 = true then
       if (x1.Who != a1.Bill.Drawee) = true then
        (mpaper_bears a1 a2 [0,2]).bind fun (r8:Bool) =>
        some (r8)
       else
        some (false)
      else
       some (false)
     else
      some (false)
noncomputable def mpaper_fits_j2 (a0:GRealm) (a1:GFile) (a2:Int) (x1:GSign) (p2:Bool):Option (Bool) :=
 (mpaper_in x1.Sum 1 1099511627776).bind fun (r3:Bool) =>
 if r3 = true then
  (mpaper_fits_j1 a0 a1 a2 p2 x1 (x1.Flags == 0)).bind fun (r10:Bool) =>
  some (r10)
 else
  (mpaper_fits_j1 a0 a1 a2 p2 x1 false).bind fun (r11:Bool) =>
  some (r11)
noncomputable def mpaper_fits_j3 (a0:GRealm) (a1:GFile) (a2:Int) (x1:GSign):Option (Bool) :=
 if (x1.Sum == 0) = true then
  (mpaper_fits_j2 a0 a1 a2 x1 (x1.Flags == 0)).bind fun (r13:Bool) =>
  some (r13)
 else
  (mpaper_fits_j2 a0 a1 a2 x1 false).bind fun (r14:Bool) =>
  some (r14)
noncomputable def mpaper_fits_j4 (a0:GRealm) (a1:GFile) (a2:Int) (x1:GSign):Option (Bool) :=
 if (x1.Kind != 3) = true then
  if (x1.Kind != 4) = true then
   if (x1.For != (-1)) = true then
    some (false)
   else
    (mpaper_fits_j3 a0 a1 a2 x1).bind fun (r16:Bool) =>
    some (r16)
  else
   (mpaper_fits_j3 a0 a1 a2 x1).bind fun (r17:Bool) =>
   some (r17)
 else
  (mpaper_fits_j3 a0 a1 a2 x1).bind fun (r18:Bool) =>
  some (r18)
noncomputable def mpaper_fits (a0:GRealm) (a1:GFile) (a2:Int):Option (Bool) :=
 (at? a1.Signs a2).bind fun (x1:GSign) =>
 if (!((a2 == 0) == (x1.Kind == 0))) = true then
  some false
 else
  if (x1.Kind != 2) = true then
   if (x1.To != (-1)) = true then
    some false
   else
    (mpaper_fits_j4 a0 a1 a2 x1).bind fun (r20:Bool) =>
    some r20
  else
   (mpaper_fits_j4 a0 a1 a2 x1).bind fun (r21:Bool) =>
   some r21
noncomputable def mpaper_sign_l1_s (a0:GRealm) (a1:GFile) (a2:Int) (x1:GSign) (p5:Int) (p6:Bool) (p7:Int):Option ((Int × Bool × Int) ⊕ (Int × Bool)) :=
 if decide (p7 < ((sliceL a1.Signs 0 a2).length:Int)) = true then
  (at? (sliceL a1.Signs 0 a2) p7).bind fun (x8:GSign) =>
  if p6 = true then
   some (.inl (x8.Day,true,IntKind.wrap .i64 (p7 + 1)))
  else
   if (x1.Kind == 1) = true then
    if (x8.Kind == 1) = true then
     some (.inl (x8.Day,x8.Part == x1.Part,IntKind.wrap .i64 (p7 + 1)))
    else
     some (.inl (x8.Day,false,IntKind.wrap .i64 (p7 + 1)))
   else
    some (.inl (x8.Day,false,IntKind.wrap .i64 (p7 + 1)))
 else
  some (.inr ((p5,p6)))
noncomputable def mpaper_sign_l1 (a0:GRealm) (a1:GFile) (a2:Int) (x1:GSign) (p5:Int) (p6:Bool) (p7:Int):Option (Int × Bool) :=
 Iter (fun (w:Int × Bool × Int)=>mpaper_sign_l1_s a0 a1 a2 x1 w.1 w.2.1 w.2.2) (p5,p6,p7)
noncomputable def mpaper_sign (a0:GRealm) (a1:GFile) (a2:Int):Option (Int) :=
 (at? a1.Signs a2).bind fun (x1:GSign) =>
 (mpaper_in x1.Part 0 (IntKind.wrap .i64 (a1.Bill.Parts - 1))).bind fun (r2:Bool) =>
 if (!(r2)) = true then
  some 15
 else
  (mpaper_in x1.Who 0 (IntKind.wrap .i64 ((a0.Firms.length:Int) - 1))).bind fun (r3:Bool) =>
  if (!(r3)) = true then
   some 1
  else
   (mpaper_in x1.City 0 (IntKind.wrap .i64 ((a0.Cities.length:Int) - 1))).bind fun (r4:Bool) =>
   if (!(r4)) = true then
    some 1
   else
    if sliceOk a1.Signs.length 0 a2 then
     (mpaper_sign_l1 a0 a1 a2 x1 a1.Bill.Day false 0).bind fun (r11:Int × Bool) =>
     (mpaper_in x1.Day r11.1 100000).bind fun (r12:Bool) =>
     if (!(r12)) = true then
      some 13
     else
      if (a2 == 0) = true then
       if (x1.Day != r11.1) = true then
        some 13
       else
        (mpaper_fits a0 a1 a2).bind fun (r13:Bool) =>
        if (!(r13)) = true then
         some 14
        else
         if r11.2 = true then
          some 5
         else
          some 0
      else
       (mpaper_fits a0 a1 a2).bind fun (r14:Bool) =>
       if (!(r14)) = true then
        some 14
       else
        if r11.2 = true then
         some 5
        else
         some 0
    else none
noncomputable def mpaper_act_j1 (a2:GAct) (p3:Bool) (p5:Bool) (r6:Bool):Option (Unit ⊕ Bool) :=
 if (a2.Kind == 6) = true then
  if r6 = true then
   if p5 = true then
    (mpaper_in a2.Sum 1 1099511627776).bind fun (r10:Bool) =>
    some (.inr (r10))
   else
    some (.inr (false))
  else
   some (.inr (false))
 else
  if (a2.Kind == 9) = true then
   if (a2.To == (-1)) = true then
    if p5 = true then
     some (.inr (a2.Sum == 0))
    else
     some (.inr (false))
   else
    some (.inr (false))
  else
   some (.inl ())
noncomputable def mpaper_act_j2 (a2:GAct) (p3:Bool) (p5:Bool) (r6:Bool):Option (Unit ⊕ Bool) :=
 if (a2.Kind == 3) = true then
  if (a2.Kind == 3) = true then
   if r6 = true then
    if (a2.At == (-1)) = true then
     (mpaper_in a2.Sum 0 1099511627776).bind fun (r8:Bool) =>
     if r8 = true then
      (mpaper_in a2.Form 0 1).bind fun (r9:Bool) =>
      some (.inr (r9))
     else
      some (.inr (false))
    else
     some (.inr (false))
   else
    some (.inr (false))
  else
   (mpaper_act_j1 a2 p3 p5 r6).bind fun (r12:Unit ⊕ Bool)=>Sum.elim (fun z13 =>
   some (.inl ())) (fun z14 =>
   some (.inr (z14))) r12
 else
  if (a2.Kind == 5) = true then
   if (a2.Kind == 5) = true then
    if r6 = true then
     if (a2.At == (-1)) = true then
      (mpaper_in a2.Sum 0 1099511627776).bind fun (r15:Bool) =>
      if r15 = true then
       (mpaper_in a2.Form 0 1).bind fun (r16:Bool) =>
       some (.inr (r16))
      else
       some (.inr (false))
     else
      some (.inr (false))
    else
     some (.inr (false))
   else
    (mpaper_act_j1 a2 p3 p5 r6).bind fun (r17:Unit ⊕ Bool)=>Sum.elim (fun z18 =>
    some (.inl ())) (fun z19 =>
    some (.inr (z19))) r17
  else
   if (a2.Kind == 4) = true then
    if r6 = true then
     if (a2.At == (-1)) = true then
      (mpaper_in a2.Sum 0 1099511627776).bind fun (r20:Bool) =>
      if r20 = true then
       (mpaper_in a2.Form 0 1).bind fun (r21:Bool) =>
       some (.inr (r21))
      else
       some (.inr (false))
     else
      some (.inr (false))
    else
     some (.inr (false))
   else
    (mpaper_act_j1 a2 p3 p5 r6).bind fun (r22:Unit ⊕ Bool)=>Sum.elim (fun z23 =>
    some (.inl ())) (fun z24 =>
    some (.inr (z24))) r22
noncomputable def mpaper_act_j3 (a2:GAct) (p3:Bool):Option (Bool) :=
 if (a2.To == (-1)) = true then
  if p3 = true then
   some (a2.Sum == 0)
  else
   some (false)
 else
  some (false)
noncomputable def mpaper_act_j4 (a2:GAct) (p3:Bool) (p5:Bool) (r6:Bool):Option (Bool) :=
 if (a2.Kind == 0) = true then
  if (a2.Kind == 0) = true then
   if r6 = true then
    if (a2.At == (-1)) = true then
     some (a2.Sum == 0)
    else
     some (false)
   else
    some (false)
  else
   (mpaper_act_j2 a2 p3 p5 r6).bind fun (r26:Unit ⊕ Bool)=>Sum.elim (fun z27 =>
   (mpaper_act_j3 a2 p3).bind fun (r36:Bool) =>
    some (r36)) (fun z28 =>
   some (z28)) r26
 else
  if (a2.Kind == 1) = true then
   if (a2.Kind == 1) = true then
    if r6 = true then
     if (a2.At == (-1)) = true then
      some (a2.Sum == 0)
     else
      some (false)
    else
     some (false)
   else
    (mpaper_act_j2 a2 p3 p5 r6).bind fun (r29:Unit ⊕ Bool)=>Sum.elim (fun z30 =>
    (mpaper_act_j3 a2 p3).bind fun (r37:Bool) =>
     some (r37)) (fun z31 =>
    some (z31)) r29
  else
   if (a2.Kind == 2) = true then
    if r6 = true then
     if (a2.At == (-1)) = true then
      some (a2.Sum == 0)
     else
      some (false)
    else
     some (false)
   else
    (mpaper_act_j2 a2 p3 p5 r6).bind fun (r32:Unit ⊕ Bool)=>Sum.elim (fun z33 =>
    (mpaper_act_j3 a2 p3).bind fun (r38:Bool) =>
     some (r38)) (fun z34 =>
    some (z34)) r32
noncomputable def mpaper_act_j5 (a0:GRealm) (a2:GAct) (p3:Bool) (p5:Bool):Option (Bool) :=
 (mpaper_in a2.To 0 (IntKind.wrap .i64 ((a0.Firms.length:Int) - 1))).bind fun (r6:Bool) =>
 (mpaper_in a2.Who 0 (IntKind.wrap .i64 ((a0.Firms.length:Int) - 1))).bind fun (r7:Bool) =>
 if (!(r7)) = true then
  some (false)
 else
  if (a2.Kind != 4) = true then
   if (a2.Form != 0) = true then
    some (false)
   else
    (mpaper_act_j4 a2 p3 p5 r6).bind fun (r40:Bool) =>
    some (r40)
  else
   (mpaper_act_j4 a2 p3 p5 r6).bind fun (r41:Bool) =>
   some (r41)
noncomputable def mpaper_act_j6 (a0:GRealm) (a1:GFile) (a2:GAct) (p3:Bool):Option (Bool) :=
 if p3 = true then
  (at? a1.Signs a2.At).bind fun (x4:GSign) =>
  (mpaper_act_j5 a0 a2 p3 (x4.Who == a2.Who)).bind fun (r43:Bool) =>
  some (r43)
 else
  (mpaper_act_j5 a0 a2 p3 false).bind fun (r44:Bool) =>
  some (r44)
noncomputable def mpaper_act (a0:GRealm) (a1:GFile) (a2:GAct):Option (Bool) :=
 (mpaper_in a2.At 0 (IntKind.wrap .i64 ((a1.Signs.length:Int) - 1))).bind fun (r1:Bool) =>
 if r1 = true then
  (mpaper_stands a1 a2.At a2.Part).bind fun (r2:Bool) =>
  (mpaper_act_j6 a0 a1 a2 r2).bind fun (r46:Bool) =>
  some r46
 else
  (mpaper_act_j6 a0 a1 a2 false).bind fun (r47:Bool) =>
  some r47
noncomputable def mpaper_acts_j1 (a0:GRealm) (a1:GFile) (p1:Int) (x2:GAct) (p10:Int):Option (Unit ⊕ Unit) :=
 (mpaper_in x2.Day p10 100000).bind fun (r11:Bool) =>
 if (!(r11)) = true then
  some (.inr (()))
 else
  some (.inl ())
noncomputable def mpaper_acts_j2 (a0:GRealm) (a1:GFile) (p1:Int) (x2:GAct) (p8:Int):Option (Unit ⊕ Unit) :=
 if decide (p1 > 0) = true then
  (at? a1.Acts (IntKind.wrap .i64 (p1 - 1))).bind fun (x9:GAct) =>
  (mpaper_acts_j1 a0 a1 p1 x2 (if x9.Day > p8 then x9.Day else p8)).bind fun (r12:Unit ⊕ Unit)=>Sum.elim (fun z13 =>
  some (.inl ())) (fun z14 =>
  some (.inr (()))) r12
 else
  (mpaper_acts_j1 a0 a1 p1 x2 p8).bind fun (r15:Unit ⊕ Unit)=>Sum.elim (fun z16 =>
  some (.inl ())) (fun z17 =>
  some (.inr (()))) r15
noncomputable def mpaper_acts_l3_s (a0:GRealm) (a1:GFile) (p1:Int):Option ((Int) ⊕ (Unit ⊕ Int)) :=
 if decide (p1 < (a1.Acts.length:Int)) = true then
  (at? a1.Acts p1).bind fun (x2:GAct) =>
  (mpaper_in x2.Part 0 (IntKind.wrap .i64 (a1.Bill.Parts - 1))).bind fun (r3:Bool) =>
  if (!(r3)) = true then
   some (.inr (.inr (15)))
  else
   (mpaper_in x2.City 0 (IntKind.wrap .i64 ((a0.Cities.length:Int) - 1))).bind fun (r4:Bool) =>
   if (!(r4)) = true then
    some (.inr (.inr (1)))
   else
    (mpaper_in x2.Kind 0 9).bind fun (r5:Bool) =>
    if (!(r5)) = true then
     some (.inr (.inr (1)))
    else
     (mpaper_act a0 a1 x2).bind fun (r6:Bool) =>
     if (!(r6)) = true then
      some (.inr (.inr (14)))
     else
      if (x2.At != (-1)) = true then
       (at? a1.Signs x2.At).bind fun (x7:GSign) =>
       (mpaper_acts_j2 a0 a1 p1 x2 (if x7.Day > a1.Bill.Day then x7.Day else a1.Bill.Day)).bind fun (r18:Unit ⊕ Unit)=>Sum.elim (fun z19 =>
       some (.inl (IntKind.wrap .i64 (p1 + 1)))) (fun z20 =>
       some (.inr (.inr (13)))) r18
      else
       (mpaper_acts_j2 a0 a1 p1 x2 a1.Bill.Day).bind fun (r21:Unit ⊕ Unit)=>Sum.elim (fun z22 =>
       some (.inl (IntKind.wrap .i64 (p1 + 1)))) (fun z23 =>
       some (.inr (.inr (13)))) r21
 else
  some (.inr (.inl ()))
noncomputable def mpaper_acts_l3 (a0:GRealm) (a1:GFile) (p1:Int):Option (Unit ⊕ Int) :=
 Iter (fun (w:Int)=>mpaper_acts_l3_s a0 a1 w) p1
noncomputable def mpaper_acts (a0:GRealm) (a1:GFile):Option (Int) :=
 (mpaper_acts_l3 a0 a1 0).bind fun (r25:Unit ⊕ Int)=>Sum.elim (fun z26 =>
 some 0) (fun z27 =>
 some z27) r25
noncomputable def mcmp_isNaN_int (a0:Int):Option (Bool) :=
 some (a0 != a0)
noncomputable def mcmp_Compare_int (a0:Int) (a1:Int):Option (Int) :=
 (mcmp_isNaN_int a0).bind fun (r1:Bool) =>
 (mcmp_isNaN_int a1).bind fun (r2:Bool) =>
 if r1 = true then
  if r2 = true then
   some 0
  else
   some (-1)
 else
  if r2 = true then
   some 1
  else
   if decide (a0 < a1) = true then
    some (-1)
   else
    if decide (a0 > a1) = true then
     some 1
    else
     some 0
noncomputable def mcmp_Or_int_l1_s (a0:List Int) (p1:Int):Option ((Int) ⊕ (Unit ⊕ Int)) :=
 if decide (p1 < (a0.length:Int)) = true then
  (at? a0 p1).bind fun (x2:Int) =>
  if (x2 != 0) = true then
   some (.inr (.inr (x2)))
  else
   some (.inl (IntKind.wrap .i64 (p1 + 1)))
 else
  some (.inr (.inl ()))
noncomputable def mcmp_Or_int_l1 (a0:List Int) (p1:Int):Option (Unit ⊕ Int) :=
 Iter (fun (w:Int)=>mcmp_Or_int_l1_s a0 w) p1
noncomputable def mcmp_Or_int (a0:List Int):Option (Int) :=
 (mcmp_Or_int_l1 a0 0).bind fun (r4:Unit ⊕ Int)=>Sum.elim (fun z5 =>
 some 0) (fun z6 =>
 some z6) r4
noncomputable def mpaper_facts_l1_s (a0:GFile) (p1:Int):Option ((Int) ⊕ (Unit ⊕ Int)) :=
 if decide (p1 < (a0.Facts.length:Int)) = true then
  (at? a0.Facts p1).bind fun (x2:GFact) =>
  (mpaper_in x2.Kind 0 4).bind fun (r3:Bool) =>
  if (!(r3)) = true then
   some (.inr (.inr (1)))
  else
   (mpaper_in x2.At 0 (IntKind.wrap .i64 ((a0.Signs.length:Int) - 1))).bind fun (r4:Bool) =>
   if (!(r4)) = true then
    some (.inr (.inr (1)))
   else
    (mpaper_in x2.N 0 1).bind fun (r5:Bool) =>
    if (!(r5)) = true then
     some (.inr (.inr (1)))
    else
     if (p1 == 0) = true then
      some (.inl (IntKind.wrap .i64 (p1 + 1)))
     else
      (at? a0.Facts (IntKind.wrap .i64 (p1 - 1))).bind fun (x6:GFact) =>
      (mcmp_Compare_int x6.At x2.At).bind fun (r7:Int) =>
      (mcmp_Compare_int x6.Kind x2.Kind).bind fun (r8:Int) =>
      (mcmp_Or_int [r7,r8]).bind fun (r9:Int) =>
      if decide (r9 ≥ 0) = true then
       some (.inr (.inr (5)))
      else
       some (.inl (IntKind.wrap .i64 (p1 + 1)))
 else
  some (.inr (.inl ()))
noncomputable def mpaper_facts_l1 (a0:GFile) (p1:Int):Option (Unit ⊕ Int) :=
 Iter (fun (w:Int)=>mpaper_facts_l1_s a0 w) p1
noncomputable def mpaper_facts (a0:GFile):Option (Int) :=
 (mpaper_facts_l1 a0 0).bind fun (r11:Unit ⊕ Int)=>Sum.elim (fun z12 =>
 some 0) (fun z13 =>
 some z13) r11
noncomputable def mpaper_Check_l1_s (a0:GRealm) (a1:GFile) (p2:Int):Option ((Int) ⊕ (Unit ⊕ Int)) :=
 if decide (p2 < (a1.Signs.length:Int)) = true then
  (mpaper_sign a0 a1 p2).bind fun (r3:Int) =>
  if (r3 != 0) = true then
   some (.inr (.inr (r3)))
  else
   some (.inl (IntKind.wrap .i64 (p2 + 1)))
 else
  some (.inr (.inl ()))
noncomputable def mpaper_Check_l1 (a0:GRealm) (a1:GFile) (p2:Int):Option (Unit ⊕ Int) :=
 Iter (fun (w:Int)=>mpaper_Check_l1_s a0 a1 w) p2
noncomputable def mpaper_Check_l2_s (a0:GRealm) (a1:GFile) (p8:Int) (p9:Int):Option ((Int × Int) ⊕ (Unit ⊕ Int)) :=
 if decide (p9 < (a1.Alters.length:Int)) = true then
  (at? a1.Alters p9).bind fun (x10:GAlter) =>
  (mpaper_in x10.At (IntKind.wrap .i64 (p8 + 1)) (a1.Signs.length:Int)).bind fun (r11:Bool) =>
  if (!(r11)) = true then
   some (.inr (.inr (1)))
  else
   (mpaper_in x10.Sum 1 1099511627776).bind fun (r12:Bool) =>
   if (!(r12)) = true then
    some (.inr (.inr (3)))
   else
    some (.inl (x10.At,IntKind.wrap .i64 (p9 + 1)))
 else
  some (.inr (.inl ()))
noncomputable def mpaper_Check_l2 (a0:GRealm) (a1:GFile) (p8:Int) (p9:Int):Option (Unit ⊕ Int) :=
 Iter (fun (w:Int × Int)=>mpaper_Check_l2_s a0 a1 w.1 w.2) (p8,p9)
noncomputable def mpaper_Check (a0:GRealm) (a1:GFile):Option (Int) :=
 if decide ((a1.Signs.length:Int) > 40) = true then
  some 6
 else
  if decide ((a1.Alters.length:Int) > 4) = true then
   some 6
  else
   if decide ((a1.Acts.length:Int) > 100) = true then
    some 6
   else
    if decide ((a1.Facts.length:Int) > 200) = true then
     some 6
    else
     (mwording_Check a0 a1.Bill).bind fun (r1:Int) =>
     if (r1 != 0) = true then
      some r1
     else
      if ((a1.Signs.length:Int) == 0) = true then
       some 14
      else
       (mpaper_Check_l1 a0 a1 0).bind fun (r5:Unit ⊕ Int)=>Sum.elim (fun z6 =>
       (mpaper_Check_l2 a0 a1 0 0).bind fun (r14:Unit ⊕ Int)=>Sum.elim (fun z15 =>
        (mpaper_acts a0 a1).bind fun (r17:Int) =>
         if (r17 != 0) = true then
          some r17
         else
          (mpaper_facts a1).bind fun (r18:Int) =>
          some r18) (fun z16 =>
        some z16) r14) (fun z7 =>
       some z7) r5
noncomputable def mpaper_Put (a0:GRealm) (a1:GFile) (a2:GSign):Option (GFile × Int) :=
 (mslices_Clone_api_Sign_api_Sign a1.Signs).bind fun (r1:(List GSign)) =>
 if (r1.length + 1) * 72 ≤ 140737488355328 then
  (mslices_Clone_api_Alter_api_Alter a1.Alters).bind fun (r2:(List GAlter)) =>
  (mslices_Clone_api_Act_api_Act a1.Acts).bind fun (r3:(List GAct)) =>
  (mslices_Clone_api_Fact_api_Fact a1.Facts).bind fun (r4:(List GFact)) =>
  (mpaper_Check a0 (GFile.mk a1.Bill (r1 ++ [a2]) r2 r3 r4)).bind fun (r5:Int) =>
  if (r5 != 0) = true then
   some ((GFile.mk (GBill.mk 0 0 0 0 0 (GTenor.mk 0 0 0) 0 0 0 0 0 0 0) [] [] [] []),r5)
  else
   some ((GFile.mk a1.Bill (r1 ++ [a2]) r2 r3 r4),0)
 else none
noncomputable def mpaper_Of_l1_s (a0:GFile) (a1:Int) (p1:Int) (p2:List Int):Option ((Int × (List Int)) ⊕ ((List Int))) :=
 if decide (p1 < (a0.Signs.length:Int)) = true then
  (mpaper_stands a0 p1 a1).bind fun (r3:Bool) =>
  if r3 = true then
   if (p2.length + 1) * 8 ≤ 140737488355328 then
    some (.inl (IntKind.wrap .i64 (p1 + 1),p2 ++ [p1]))
   else none
  else
   some (.inl (IntKind.wrap .i64 (p1 + 1),p2))
 else
  some (.inr (p2))
noncomputable def mpaper_Of_l1 (a0:GFile) (a1:Int) (p1:Int) (p2:List Int):Option ((List Int)) :=
 Iter (fun (w:Int × (List Int))=>mpaper_Of_l1_s a0 a1 w.1 w.2) (p1,p2)
noncomputable def mpaper_Of (a0:GFile) (a1:Int):Option ((List Int)) :=
 (mpaper_Of_l1 a0 a1 0 []).bind fun (r5:(List Int)) =>
 some r5
noncomputable def mallongeref06_SameInts_l1_s (a0:List Int) (a1:List Int) (p1:Int):Option ((Int) ⊕ (Unit ⊕ Unit)) :=
 if decide (p1 < (a0.length:Int)) = true then
  (at? a0 p1).bind fun (x2:Int) =>
  (at? a1 p1).bind fun (x3:Int) =>
  if (x2 != x3) = true then
   some (.inr (.inr (())))
  else
   some (.inl (IntKind.wrap .i64 (p1 + 1)))
 else
  some (.inr (.inl ()))
noncomputable def mallongeref06_SameInts_l1 (a0:List Int) (a1:List Int) (p1:Int):Option (Unit ⊕ Unit) :=
 Iter (fun (w:Int)=>mallongeref06_SameInts_l1_s a0 a1 w) p1
noncomputable def mallongeref06_SameInts (a0:List Int) (a1:List Int):Option (Bool) :=
 if ((a0.length:Int) != (a1.length:Int)) = true then
  some false
 else
  (mallongeref06_SameInts_l1 a0 a1 0).bind fun (r4:Unit ⊕ Unit)=>Sum.elim (fun z5 =>
  some true) (fun z6 =>
  some false) r4
noncomputable def mpaper_Accepts_l1_s (a0:GFile) (p1:Int) (p2:List Int):Option ((Int × (List Int)) ⊕ ((List Int))) :=
 if decide (p1 < (a0.Signs.length:Int)) = true then
  (at? a0.Signs p1).bind fun (x3:GSign) =>
  if (x3.Kind == 1) = true then
   if (p2.length + 1) * 8 ≤ 140737488355328 then
    some (.inl (IntKind.wrap .i64 (p1 + 1),p2 ++ [p1]))
   else none
  else
   some (.inl (IntKind.wrap .i64 (p1 + 1),p2))
 else
  some (.inr (p2))
noncomputable def mpaper_Accepts_l1 (a0:GFile) (p1:Int) (p2:List Int):Option ((List Int)) :=
 Iter (fun (w:Int × (List Int))=>mpaper_Accepts_l1_s a0 w.1 w.2) (p1,p2)
noncomputable def mpaper_Accepts (a0:GFile):Option ((List Int)) :=
 (mpaper_Accepts_l1 a0 0 []).bind fun (r5:(List Int)) =>
 some r5
noncomputable def mpaper_SumAt_l1_s (a0:GFile) (a1:Int) (p1:Int) (p2:Int):Option ((Int × Int) ⊕ (Int)) :=
 if decide (p2 < (a0.Alters.length:Int)) = true then
  (at? a0.Alters p2).bind fun (x3:GAlter) =>
  if decide (x3.At ≤ a1) = true then
   some (.inl (x3.Sum,IntKind.wrap .i64 (p2 + 1)))
  else
   some (.inl (p1,IntKind.wrap .i64 (p2 + 1)))
 else
  some (.inr (p1))
noncomputable def mpaper_SumAt_l1 (a0:GFile) (a1:Int) (p1:Int) (p2:Int):Option (Int) :=
 Iter (fun (w:Int × Int)=>mpaper_SumAt_l1_s a0 a1 w.1 w.2) (p1,p2)
noncomputable def mpaper_SumAt (a0:GFile) (a1:Int):Option (Int) :=
 (mpaper_SumAt_l1 a0 a1 a0.Bill.Sum 0).bind fun (r5:Int) =>
 some r5
noncomputable def mallongelaw12_sane:Option (Bool) :=
 (mallongelaw12_example).bind fun (r1:GRealm × GFile) =>
 (mpaper_Put r1.1 r1.2 (GSign.mk 2 1 0 (-1) (-1) 0 11 0 0)).bind fun (r2:GFile × Int) =>
 (mpaper_Put r1.1 r1.2 (GSign.mk 2 1 0 (-1) (-1) 0 12 0 0)).bind fun (r3:GFile × Int) =>
 (mpaper_Put r1.1 r1.2 (GSign.mk 1 0 1 (-1) (-1) 300 20 0 0)).bind fun (r4:GFile × Int) =>
 (mpaper_Put r1.1 r1.2 (GSign.mk 1 1 1 (-1) (-1) 300 20 0 0)).bind fun (r5:GFile × Int) =>
 (mpaper_Put r1.1 r1.2 (GSign.mk 3 1 0 2 (-1) 0 20 0 0)).bind fun (r6:GFile × Int) =>
 (mpaper_Put r1.1 r1.2 (GSign.mk 3 0 0 2 (-1) 0 20 0 0)).bind fun (r7:GFile × Int) =>
 if (r2.2 != 13) = true then
  some false
 else
  if (r3.2 != 0) = true then
   some false
  else
   if (r4.2 != 5) = true then
    some false
   else
    if (r5.2 != 0) = true then
     some false
    else
     if (r6.2 != 14) = true then
      some false
     else
      if (r7.2 != 0) = true then
       some false
      else
       if ((r3.1.Signs.length:Int) != 4) = true then
        some false
       else
        (mpaper_Check r1.1 (GFile.mk r1.2.Bill r1.2.Signs [(GAlter.mk 1 900)] r1.2.Acts r1.2.Facts)).bind fun (r8:Int) =>
        if (r8 == 0) = true then
         (mpaper_Of (GFile.mk r1.2.Bill r1.2.Signs [(GAlter.mk 1 900)] r1.2.Acts r1.2.Facts) 1).bind fun (r9:(List Int)) =>
         (mallongeref06_SameInts r9 [0,1]).bind fun (r10:Bool) =>
         if r10 = true then
          (mpaper_Accepts (GFile.mk r1.2.Bill r1.2.Signs [(GAlter.mk 1 900)] r1.2.Acts r1.2.Facts)).bind fun (r11:(List Int)) =>
          (mallongeref06_SameInts r11 [2]).bind fun (r12:Bool) =>
          if r12 = true then
           (mpaper_SumAt (GFile.mk r1.2.Bill r1.2.Signs [(GAlter.mk 1 900)] r1.2.Acts r1.2.Facts) 0).bind fun (r13:Int) =>
           if (r13 == 500) = true then
            (mpaper_SumAt (GFile.mk r1.2.Bill r1.2.Signs [(GAlter.mk 1 900)] r1.2.Acts r1.2.Facts) 1).bind fun (r14:Int) =>
            some (r14 == 900)
           else
            some false
          else
           some false
         else
          some false
        else
         some false
noncomputable def mallongeref12_Few (a0:GFile):Option (Bool) :=
 if decide ((a0.Signs.length:Int) ≤ 42) = true then
  if decide ((a0.Alters.length:Int) ≤ 6) = true then
   if decide ((a0.Acts.length:Int) ≤ 102) = true then
    some (decide ((a0.Facts.length:Int) ≤ 202))
   else
    some false
  else
   some false
 else
  some false
noncomputable def mallongelaw12_PaperParts_l1_s (a1:GFile) (p10:Int) (p5:Int) (p6:Int) (r1:Bool) (r4:(List Int)) (r7:(List Int)) (p21:Int) (p22:Int):Option ((Int × Int) ⊕ (Int)) :=
 if decide (p22 < (r4.length:Int)) = true then
  (at? r4 p22).bind fun (x23:Int) =>
  (at? r7 p10).bind fun (x24:Int) =>
  if (x23 == x24) = true then
   some (.inl (IntKind.wrap .i64 (p21 + 1),IntKind.wrap .i64 (p22 + 1)))
  else
   some (.inl (p21,IntKind.wrap .i64 (p22 + 1)))
 else
  some (.inr (p21))
noncomputable def mallongelaw12_PaperParts_l1 (a1:GFile) (p10:Int) (p5:Int) (p6:Int) (r1:Bool) (r4:(List Int)) (r7:(List Int)) (p21:Int) (p22:Int):Option (Int) :=
 Iter (fun (w:Int × Int)=>mallongelaw12_PaperParts_l1_s a1 p10 p5 p6 r1 r4 r7 w.1 w.2) (p21,p22)
noncomputable def mallongelaw12_PaperParts_j2 (a1:GFile) (p10:Int) (p5:Int) (p6:Int) (p9:Int) (r1:Bool) (r4:(List Int)) (r7:(List Int)):Option (Int) :=
 (mallongelaw12_PaperParts_l1 a1 p10 p5 p6 r1 r4 r7 p9 0).bind fun (r26:Int) =>
 some (r26)
noncomputable def mallongelaw12_PaperParts_l3_s (a1:GFile) (p5:Int) (p6:Int) (r1:Bool) (r4:(List Int)) (r7:(List Int)) (p9:Int) (p10:Int):Option ((Int × Int) ⊕ (Int ⊕ Unit)) :=
 if decide (p10 < (r7.length:Int)) = true then
  (at? r7 p10).bind fun (x11:Int) =>
  if decide (x11 < 0) = true then
   some (.inr (.inr (())))
  else
   (at? r7 p10).bind fun (x12:Int) =>
   if decide (x12 ≥ (a1.Signs.length:Int)) = true then
    some (.inr (.inr (())))
   else
    if decide (p10 > 0) = true then
     (at? r7 (IntKind.wrap .i64 (p10 - 1))).bind fun (x13:Int) =>
     (at? r7 p10).bind fun (x14:Int) =>
     if decide (x13 ≥ x14) = true then
      some (.inr (.inr (())))
     else
      (at? r7 p10).bind fun (x15:Int) =>
      (at? a1.Signs x15).bind fun (x16:GSign) =>
      (at? r7 p10).bind fun (x17:Int) =>
      (at? a1.Signs (IntKind.wrap .i64 (x17 - 1))).bind fun (x18:GSign) =>
      if decide (x16.Day < x18.Day) = true then
       some (.inr (.inr (())))
      else
       (at? r7 p10).bind fun (x19:Int) =>
       (at? a1.Signs x19).bind fun (x20:GSign) =>
       if (x20.Part != p6) = true then
        some (.inr (.inr (())))
       else
        (mallongelaw12_PaperParts_j2 a1 p10 p5 p6 p9 r1 r4 r7).bind fun (r28:Int) =>
        some (.inl (r28,IntKind.wrap .i64 (p10 + 1)))
    else
     (mallongelaw12_PaperParts_j2 a1 p10 p5 p6 p9 r1 r4 r7).bind fun (r29:Int) =>
     some (.inl (r29,IntKind.wrap .i64 (p10 + 1)))
 else
  some (.inr (.inl p9))
noncomputable def mallongelaw12_PaperParts_l3 (a1:GFile) (p5:Int) (p6:Int) (r1:Bool) (r4:(List Int)) (r7:(List Int)) (p9:Int) (p10:Int):Option (Int ⊕ Unit) :=
 Iter (fun (w:Int × Int)=>mallongelaw12_PaperParts_l3_s a1 p5 p6 r1 r4 r7 w.1 w.2) (p9,p10)
noncomputable def mallongelaw12_PaperParts_l4_s (a1:GFile) (r1:Bool) (r4:(List Int)) (p5:Int) (p6:Int):Option ((Int × Int) ⊕ (Int ⊕ Unit)) :=
 if decide (p6 < a1.Bill.Parts) = true then
  (mpaper_Of a1 p6).bind fun (r7:(List Int)) =>
  if ((r7.length:Int) == 0) = true then
   some (.inr (.inr (())))
  else
   (at? r7 0).bind fun (x8:Int) =>
   if (x8 != 0) = true then
    some (.inr (.inr (())))
   else
    (mallongelaw12_PaperParts_l3 a1 p5 p6 r1 r4 r7 0 0).bind fun (r31:Int ⊕ Unit)=>Sum.elim (fun z32 =>
    if decide (z32 > 1) = true then
      some (.inr (.inr (())))
     else
      some (.inl (IntKind.wrap .i64 ((IntKind.wrap .i64 (p5 + (r7.length:Int))) - 1),IntKind.wrap .i64 (p6 + 1)))) (fun z33 =>
    some (.inr (.inr (())))) r31
 else
  some (.inr (.inl p5))
noncomputable def mallongelaw12_PaperParts_l4 (a1:GFile) (r1:Bool) (r4:(List Int)) (p5:Int) (p6:Int):Option (Int ⊕ Unit) :=
 Iter (fun (w:Int × Int)=>mallongelaw12_PaperParts_l4_s a1 r1 r4 w.1 w.2) (p5,p6)
noncomputable def mallongelaw12_PaperParts (a0:GRealm) (a1:GFile):Option (Bool) :=
 (mallongelaw12_sane).bind fun (r1:Bool) =>
 (mallongeref12_Few a1).bind fun (r2:Bool) =>
 if (!(r2)) = true then
  some r1
 else
  (mpaper_Check a0 a1).bind fun (r3:Int) =>
  if (r3 != 0) = true then
   some r1
  else
   (mpaper_Accepts a1).bind fun (r4:(List Int)) =>
   (mallongelaw12_PaperParts_l4 a1 r1 r4 0 0).bind fun (r35:Int ⊕ Unit)=>Sum.elim (fun z36 =>
   if r1 = true then
     if (z36 == (IntKind.wrap .i64 ((a1.Signs.length:Int) - 1))) = true then
      (mpaper_Of a1 (-1)).bind fun (r38:(List Int)) =>
      some ((r38.length:Int) == 1)
     else
      some false
    else
     some false) (fun z37 =>
   some false) r35
end Go.Proofs.Ytfhebiceipgdmaa
