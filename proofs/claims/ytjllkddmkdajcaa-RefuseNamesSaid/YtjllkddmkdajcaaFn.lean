/- What the functions compute, as plain definitions. Printed by a program. -/
import Derived.Test.YtjllkddmkdajcaaTab
set_option linter.unusedVariables false
set_option linter.unusedSimpArgs false
namespace Go.Proofs.Ytjllkddmkdajcaa
open Vm
open Go.RowKit
def gTown (c:GCity):Option Town:=if c.Rest.length ≤ 140737488355328 ∧ c.Feasts.length ≤ 140737488355328 ∧ c.Shut.length ≤ 140737488355328 then some ⟨c.Rest,c.Feasts,c.Shut⟩ else none
noncomputable def mallongelaw36_example (a0:List GWarning):Option (GRealm × GShown) :=
 some ((GRealm.mk [(⟨#[102,114,97,110,99]⟩ : ByteArray)] [(GCity.mk (⟨#[76,121,111,110]⟩ : ByteArray) 0 0 [5,6] [] [])] [] [] [(GOrder.mk (⟨#[103,101,110,101,118,97]⟩ : ByteArray) false [] [])] [] [] []),(GShown.mk 0 2 [[0],[1,2]] a0))
noncomputable def mrealm_names_l1_s (a0:GRealm) (p1:Int) (p2:List ByteArray):Option ((Int × (List ByteArray)) ⊕ ((List ByteArray))) :=
 if decide (p1 < (a0.Cities.length:Int)) = true then
  (at? a0.Cities p1).bind fun (x3:GCity) =>
  if (p2.length + 1) * 16 ≤ 140737488355328 then
   some (.inl (IntKind.wrap .i64 (p1 + 1),p2 ++ [x3.Name]))
  else none
 else
  some (.inr (p2))
noncomputable def mrealm_names_l1 (a0:GRealm) (p1:Int) (p2:List ByteArray):Option ((List ByteArray)) :=
 Iter (fun (w:Int × (List ByteArray))=>mrealm_names_l1_s a0 w.1 w.2) (p1,p2)
noncomputable def mrealm_names_l2_s (a0:GRealm) (r5:(List ByteArray)) (p6:Int) (p7:List ByteArray):Option ((Int × (List ByteArray)) ⊕ ((List ByteArray))) :=
 if decide (p6 < (a0.Firms.length:Int)) = true then
  (at? a0.Firms p6).bind fun (x8:GFirm) =>
  if (p7.length + 1) * 16 ≤ 140737488355328 then
   some (.inl (IntKind.wrap .i64 (p6 + 1),p7 ++ [x8.Name]))
  else none
 else
  some (.inr (p7))
noncomputable def mrealm_names_l2 (a0:GRealm) (r5:(List ByteArray)) (p6:Int) (p7:List ByteArray):Option ((List ByteArray)) :=
 Iter (fun (w:Int × (List ByteArray))=>mrealm_names_l2_s a0 r5 w.1 w.2) (p6,p7)
noncomputable def mrealm_names_l3_s (a0:GRealm) (r10:(List ByteArray)) (r5:(List ByteArray)) (p11:Int) (p12:List ByteArray):Option ((Int × (List ByteArray)) ⊕ ((List ByteArray))) :=
 if decide (p11 < (a0.Orders.length:Int)) = true then
  (at? a0.Orders p11).bind fun (x13:GOrder) =>
  if (p12.length + 1) * 16 ≤ 140737488355328 then
   some (.inl (IntKind.wrap .i64 (p11 + 1),p12 ++ [x13.Name]))
  else none
 else
  some (.inr (p12))
noncomputable def mrealm_names_l3 (a0:GRealm) (r10:(List ByteArray)) (r5:(List ByteArray)) (p11:Int) (p12:List ByteArray):Option ((List ByteArray)) :=
 Iter (fun (w:Int × (List ByteArray))=>mrealm_names_l3_s a0 r10 r5 w.1 w.2) (p11,p12)
noncomputable def mrealm_names (a0:GRealm):Option ((List ByteArray) × (List ByteArray) × (List ByteArray)) :=
 (mrealm_names_l1 a0 0 []).bind fun (r5:(List ByteArray)) =>
 (mrealm_names_l2 a0 r5 0 []).bind fun (r10:(List ByteArray)) =>
 (mrealm_names_l3 a0 r10 r5 0 []).bind fun (r15:(List ByteArray)) =>
 some (r5,r10,r15)
noncomputable def mrealm_isName_j1 (a0:ByteArray) (p1:Int) (x2:Int) (p3:Bool):Option (Unit ⊕ Unit) :=
 if (!(p3)) = true then
  if (p1 == 0) = true then
   some (.inr (()))
  else
   if (x2 != 95) = true then
    if decide (x2 < 48) = true then
     some (.inr (()))
    else
     if decide (x2 > 57) = true then
      some (.inr (()))
     else
      some (.inl ())
   else
    some (.inl ())
 else
  some (.inl ())
noncomputable def mrealm_isName_l2_s (a0:ByteArray) (p1:Int):Option ((Int) ⊕ (Unit ⊕ Unit)) :=
 if decide (p1 < ((bytesL a0).length:Int)) = true then
  (at? (bytesL a0) p1).bind fun (x2:Int) =>
  if decide (x2 ≥ 97) = true then
   if decide (x2 ≤ 122) = true then
    (mrealm_isName_j1 a0 p1 x2 true).bind fun (r4:Unit ⊕ Unit)=>Sum.elim (fun z5 =>
    some (.inl (IntKind.wrap .i64 (p1 + 1)))) (fun z6 =>
    some (.inr (.inr (())))) r4
   else
    if decide (x2 ≥ 65) = true then
     (mrealm_isName_j1 a0 p1 x2 (decide (x2 ≤ 90))).bind fun (r7:Unit ⊕ Unit)=>Sum.elim (fun z8 =>
     some (.inl (IntKind.wrap .i64 (p1 + 1)))) (fun z9 =>
     some (.inr (.inr (())))) r7
    else
     (mrealm_isName_j1 a0 p1 x2 false).bind fun (r10:Unit ⊕ Unit)=>Sum.elim (fun z11 =>
     some (.inl (IntKind.wrap .i64 (p1 + 1)))) (fun z12 =>
     some (.inr (.inr (())))) r10
  else
   if decide (x2 ≥ 65) = true then
    (mrealm_isName_j1 a0 p1 x2 (decide (x2 ≤ 90))).bind fun (r13:Unit ⊕ Unit)=>Sum.elim (fun z14 =>
    some (.inl (IntKind.wrap .i64 (p1 + 1)))) (fun z15 =>
    some (.inr (.inr (())))) r13
   else
    (mrealm_isName_j1 a0 p1 x2 false).bind fun (r16:Unit ⊕ Unit)=>Sum.elim (fun z17 =>
    some (.inl (IntKind.wrap .i64 (p1 + 1)))) (fun z18 =>
    some (.inr (.inr (())))) r16
 else
  some (.inr (.inl ()))
noncomputable def mrealm_isName_l2 (a0:ByteArray) (p1:Int):Option (Unit ⊕ Unit) :=
 Iter (fun (w:Int)=>mrealm_isName_l2_s a0 w) p1
noncomputable def mrealm_isName (a0:ByteArray):Option (Bool) :=
 if (a0.toList == ByteArray.empty.toList) = true then
  some false
 else
  if decide ((a0.size:Int) > 20) = true then
   some false
  else
   (mrealm_isName_l2 a0 0).bind fun (r19:Unit ⊕ Unit)=>Sum.elim (fun z20 =>
   some true) (fun z21 =>
   some false) r19
noncomputable def mslices_Index_string_string_l1_s (a0:List ByteArray) (a1:ByteArray) (p1:Int):Option ((Int) ⊕ (Unit ⊕ Int)) :=
 if decide (p1 < (a0.length:Int)) = true then
  (at? a0 p1).bind fun (x2:ByteArray) =>
  if (a1.toList == x2.toList) = true then
   some (.inr (.inr (p1)))
  else
   some (.inl (IntKind.wrap .i64 (p1 + 1)))
 else
  some (.inr (.inl ()))
noncomputable def mslices_Index_string_string_l1 (a0:List ByteArray) (a1:ByteArray) (p1:Int):Option (Unit ⊕ Int) :=
 Iter (fun (w:Int)=>mslices_Index_string_string_l1_s a0 a1 w) p1
noncomputable def mslices_Index_string_string (a0:List ByteArray) (a1:ByteArray):Option (Int) :=
 (mslices_Index_string_string_l1 a0 a1 0).bind fun (r4:Unit ⊕ Int)=>Sum.elim (fun z5 =>
 some (-1)) (fun z6 =>
 some z6) r4
noncomputable def mslices_Contains_string_string (a0:List ByteArray) (a1:ByteArray):Option (Bool) :=
 (mslices_Index_string_string a0 a1).bind fun (r1:Int) =>
 some (decide (r1 ≥ 0))
noncomputable def mrealm_named (a0:List ByteArray) (a1:Int):Option (Int) :=
 (at? a0 a1).bind fun (x1:ByteArray) =>
 (mrealm_isName x1).bind fun (r2:Bool) =>
 if (!(r2)) = true then
  some 2
 else
  if sliceOk a0.length 0 a1 then
   (at? a0 a1).bind fun (x3:ByteArray) =>
   (mslices_Contains_string_string (sliceL a0 0 a1) x3).bind fun (r4:Bool) =>
   if r4 = true then
    some 5
   else
    some 0
  else none
noncomputable def mrealm_Check_1 (a0:Int):Option (Bool) :=
 some true
noncomputable def mrealm_fits_s1_l1_s (a0:List ByteArray) (p1:Int):Option ((Int) ⊕ (Unit ⊕ Int)) :=
 if decide (p1 < (a0.length:Int)) = true then
  (mrealm_named a0 p1).bind fun (r2:Int) =>
  if (r2 != 0) = true then
   some (.inr (.inr (r2)))
  else
   (mrealm_Check_1 p1).bind fun (r3:Bool) =>
   if (!(r3)) = true then
    some (.inr (.inr (1)))
   else
    some (.inl (IntKind.wrap .i64 (p1 + 1)))
 else
  some (.inr (.inl ()))
noncomputable def mrealm_fits_s1_l1 (a0:List ByteArray) (p1:Int):Option (Unit ⊕ Int) :=
 Iter (fun (w:Int)=>mrealm_fits_s1_l1_s a0 w) p1
noncomputable def mrealm_fits_s1 (a0:List ByteArray) (a1:Int):Option (Int) :=
 if decide ((a0.length:Int) > a1) = true then
  some 6
 else
  (mrealm_fits_s1_l1 a0 0).bind fun (r5:Unit ⊕ Int)=>Sum.elim (fun z6 =>
  some 0) (fun z7 =>
  some z7) r5
noncomputable def mrealm_in (a0:Int) (a1:Int):Option (Bool) :=
 if decide (a0 ≥ 0) = true then
  some (decide (a0 < a1))
 else
  some false
noncomputable def mrealm_rising_l1_s (a0:List Int) (a1:Int) (a2:Int) (p1:Int):Option ((Int) ⊕ (Unit ⊕ Unit)) :=
 if decide (p1 < (a0.length:Int)) = true then
  (at? a0 p1).bind fun (x2:Int) =>
  if decide (x2 < a1) = true then
   some (.inr (.inr (())))
  else
   if decide (x2 > a2) = true then
    some (.inr (.inr (())))
   else
    if decide (p1 > 0) = true then
     (at? a0 (IntKind.wrap .i64 (p1 - 1))).bind fun (x3:Int) =>
     if decide (x2 ≤ x3) = true then
      some (.inr (.inr (())))
     else
      some (.inl (IntKind.wrap .i64 (p1 + 1)))
    else
     some (.inl (IntKind.wrap .i64 (p1 + 1)))
 else
  some (.inr (.inl ()))
noncomputable def mrealm_rising_l1 (a0:List Int) (a1:Int) (a2:Int) (p1:Int):Option (Unit ⊕ Unit) :=
 Iter (fun (w:Int)=>mrealm_rising_l1_s a0 a1 a2 w) p1
noncomputable def mrealm_rising (a0:List Int) (a1:Int) (a2:Int):Option (Bool) :=
 (mrealm_rising_l1 a0 a1 a2 0).bind fun (r4:Unit ⊕ Unit)=>Sum.elim (fun z5 =>
 some true) (fun z6 =>
 some false) r4
noncomputable def mrealm_city_l1_s (a0:GRealm) (a1:GCity) (p1:Int):Option ((Int) ⊕ (Unit ⊕ Unit)) :=
 if decide (p1 < (a1.Feasts.length:Int)) = true then
  (at? a1.Feasts p1).bind fun (x2:Int) =>
  if decide ((x2.tmod 100) < 1) = true then
   some (.inr (.inr (())))
  else
   if decide ((x2.tmod 100) > 31) = true then
    some (.inr (.inr (())))
   else
    some (.inl (IntKind.wrap .i64 (p1 + 1)))
 else
  some (.inr (.inl ()))
noncomputable def mrealm_city_l1 (a0:GRealm) (a1:GCity) (p1:Int):Option (Unit ⊕ Unit) :=
 Iter (fun (w:Int)=>mrealm_city_l1_s a0 a1 w) p1
noncomputable def mrealm_city (a0:GRealm) (a1:GCity):Option (Bool) :=
 (mrealm_city_l1 a0 a1 0).bind fun (r3:Unit ⊕ Unit)=>Sum.elim (fun z4 =>
 if decide ((a1.Feasts.length:Int) > 60) = true then
   some false
  else
   if decide ((a1.Shut.length:Int) > 200) = true then
    some false
   else
    (mrealm_in a1.Order (a0.Orders.length:Int)).bind fun (r6:Bool) =>
    if (!(r6)) = true then
     some false
    else
     (mrealm_in a1.Currency (a0.Currencies.length:Int)).bind fun (r7:Bool) =>
     if (!(r7)) = true then
      some false
     else
      (mrealm_rising a1.Rest 0 6).bind fun (r8:Bool) =>
      if r8 = true then
       (mrealm_rising a1.Feasts 101 1231).bind fun (r9:Bool) =>
       if r9 = true then
        (mrealm_rising a1.Shut 0 100000).bind fun (r10:Bool) =>
        some r10
       else
        some false
      else
       some false) (fun z5 =>
 some false) r3
noncomputable def mrealm_Check_2_s1 (a0:Int) (a1:GRealm):Option (Bool) :=
 (at? a1.Cities a0).bind fun (x1:GCity) =>
 (mrealm_city a1 x1).bind fun (r2:Bool) =>
 some r2
noncomputable def mrealm_fits_s2_l1_s (a0:List ByteArray) (a2:GRealm) (p1:Int):Option ((Int) ⊕ (Unit ⊕ Int)) :=
 if decide (p1 < (a0.length:Int)) = true then
  (mrealm_named a0 p1).bind fun (r2:Int) =>
  if (r2 != 0) = true then
   some (.inr (.inr (r2)))
  else
   (mrealm_Check_2_s1 p1 a2).bind fun (r3:Bool) =>
   if (!(r3)) = true then
    some (.inr (.inr (1)))
   else
    some (.inl (IntKind.wrap .i64 (p1 + 1)))
 else
  some (.inr (.inl ()))
noncomputable def mrealm_fits_s2_l1 (a0:List ByteArray) (a2:GRealm) (p1:Int):Option (Unit ⊕ Int) :=
 Iter (fun (w:Int)=>mrealm_fits_s2_l1_s a0 a2 w) p1
noncomputable def mrealm_fits_s2 (a0:List ByteArray) (a1:Int) (a2:GRealm):Option (Int) :=
 if decide ((a0.length:Int) > a1) = true then
  some 6
 else
  (mrealm_fits_s2_l1 a0 a2 0).bind fun (r5:Unit ⊕ Int)=>Sum.elim (fun z6 =>
  some 0) (fun z7 =>
  some z7) r5
noncomputable def mrealm_Check_3_s1 (a0:Int) (a1:GRealm):Option (Bool) :=
 (at? a1.Firms a0).bind fun (x1:GFirm) =>
 (mrealm_in x1.City (a1.Cities.length:Int)).bind fun (r2:Bool) =>
 if r2 = true then
  (at? a1.Firms a0).bind fun (x3:GFirm) =>
  (mrealm_in x3.Group (a1.Groups.length:Int)).bind fun (r4:Bool) =>
  some r4
 else
  some false
noncomputable def mrealm_fits_s3_l1_s (a0:List ByteArray) (a2:GRealm) (p1:Int):Option ((Int) ⊕ (Unit ⊕ Int)) :=
 if decide (p1 < (a0.length:Int)) = true then
  (mrealm_named a0 p1).bind fun (r2:Int) =>
  if (r2 != 0) = true then
   some (.inr (.inr (r2)))
  else
   (mrealm_Check_3_s1 p1 a2).bind fun (r3:Bool) =>
   if (!(r3)) = true then
    some (.inr (.inr (1)))
   else
    some (.inl (IntKind.wrap .i64 (p1 + 1)))
 else
  some (.inr (.inl ()))
noncomputable def mrealm_fits_s3_l1 (a0:List ByteArray) (a2:GRealm) (p1:Int):Option (Unit ⊕ Int) :=
 Iter (fun (w:Int)=>mrealm_fits_s3_l1_s a0 a2 w) p1
noncomputable def mrealm_fits_s3 (a0:List ByteArray) (a1:Int) (a2:GRealm):Option (Int) :=
 if decide ((a0.length:Int) > a1) = true then
  some 6
 else
  (mrealm_fits_s3_l1 a0 a2 0).bind fun (r5:Unit ⊕ Int)=>Sum.elim (fun z6 =>
  some 0) (fun z7 =>
  some z7) r5
noncomputable def mrealm_order_l1_s (a0:GOrder) (p1:Int) (p2:List Int):Option ((Int × (List Int)) ⊕ (((List Int)) ⊕ Unit)) :=
 if decide (p1 < (a0.Choices.length:Int)) = true then
  (at? a0.Choices p1).bind fun (x3:GChoice) =>
  if (p2.length + 1) * 8 ≤ 140737488355328 then
   (mrealm_in x3.By 5).bind fun (r4:Bool) =>
   if (!(r4)) = true then
    some (.inr (.inr (())))
   else
    some (.inl (IntKind.wrap .i64 (p1 + 1),p2 ++ [x3.Ask]))
  else none
 else
  some (.inr (.inl p2))
noncomputable def mrealm_order_l1 (a0:GOrder) (p1:Int) (p2:List Int):Option (((List Int)) ⊕ Unit) :=
 Iter (fun (w:Int × (List Int))=>mrealm_order_l1_s a0 w.1 w.2) (p1,p2)
noncomputable def mrealm_order_l2_s (a0:GOrder) (z7:(List Int)) (p9:Int) (p10:List Int):Option ((Int × (List Int)) ⊕ ((List Int))) :=
 if decide (p9 < (a0.Rules.length:Int)) = true then
  (at? a0.Rules p9).bind fun (x11:GRule) =>
  if (p10.length + 1) * 8 ≤ 140737488355328 then
   some (.inl (IntKind.wrap .i64 (p9 + 1),p10 ++ [x11.Ask]))
  else none
 else
  some (.inr (p10))
noncomputable def mrealm_order_l2 (a0:GOrder) (z7:(List Int)) (p9:Int) (p10:List Int):Option ((List Int)) :=
 Iter (fun (w:Int × (List Int))=>mrealm_order_l2_s a0 z7 w.1 w.2) (p9,p10)
noncomputable def mrealm_order (a0:GOrder):Option (Bool) :=
 (mrealm_order_l1 a0 0 []).bind fun (r6:((List Int)) ⊕ Unit)=>Sum.elim (fun z7 =>
 (mrealm_order_l2 a0 z7 0 []).bind fun (r13:(List Int)) =>
  (mrealm_rising z7 0 21).bind fun (r14:Bool) =>
  if r14 = true then
   (mrealm_rising r13 0 21).bind fun (r15:Bool) =>
   some r15
  else
   some false) (fun z8 =>
 some false) r6
noncomputable def mrealm_Check_4_s1 (a0:Int) (a1:GRealm):Option (Bool) :=
 (at? a1.Orders a0).bind fun (x1:GOrder) =>
 (mrealm_order x1).bind fun (r2:Bool) =>
 some r2
noncomputable def mrealm_fits_s4_l1_s (a0:List ByteArray) (a2:GRealm) (p1:Int):Option ((Int) ⊕ (Unit ⊕ Int)) :=
 if decide (p1 < (a0.length:Int)) = true then
  (mrealm_named a0 p1).bind fun (r2:Int) =>
  if (r2 != 0) = true then
   some (.inr (.inr (r2)))
  else
   (mrealm_Check_4_s1 p1 a2).bind fun (r3:Bool) =>
   if (!(r3)) = true then
    some (.inr (.inr (1)))
   else
    some (.inl (IntKind.wrap .i64 (p1 + 1)))
 else
  some (.inr (.inl ()))
noncomputable def mrealm_fits_s4_l1 (a0:List ByteArray) (a2:GRealm) (p1:Int):Option (Unit ⊕ Int) :=
 Iter (fun (w:Int)=>mrealm_fits_s4_l1_s a0 a2 w) p1
noncomputable def mrealm_fits_s4 (a0:List ByteArray) (a1:Int) (a2:GRealm):Option (Int) :=
 if decide ((a0.length:Int) > a1) = true then
  some 6
 else
  (mrealm_fits_s4_l1 a0 a2 0).bind fun (r5:Unit ⊕ Int)=>Sum.elim (fun z6 =>
  some 0) (fun z7 =>
  some z7) r5
noncomputable def mrealm_usances_l1_s (a0:GRealm) (p1:Int) (x2:GUsance) (p5:Int):Option ((Int) ⊕ (Unit ⊕ Unit)) :=
 if decide (p5 < ((sliceL a0.Usances 0 p1).length:Int)) = true then
  (at? (sliceL a0.Usances 0 p1) p5).bind fun (x6:GUsance) =>
  if (x6.From == x2.From) = true then
   if (x6.To == x2.To) = true then
    some (.inr (.inr (())))
   else
    some (.inl (IntKind.wrap .i64 (p5 + 1)))
  else
   some (.inl (IntKind.wrap .i64 (p5 + 1)))
 else
  some (.inr (.inl ()))
noncomputable def mrealm_usances_l1 (a0:GRealm) (p1:Int) (x2:GUsance) (p5:Int):Option (Unit ⊕ Unit) :=
 Iter (fun (w:Int)=>mrealm_usances_l1_s a0 p1 x2 w) p5
noncomputable def mrealm_usances_l2_s (a0:GRealm) (p1:Int):Option ((Int) ⊕ (Unit ⊕ Int)) :=
 if decide (p1 < (a0.Usances.length:Int)) = true then
  (at? a0.Usances p1).bind fun (x2:GUsance) =>
  (mrealm_in x2.From (a0.Cities.length:Int)).bind fun (r3:Bool) =>
  if (!(r3)) = true then
   some (.inr (.inr (1)))
  else
   (mrealm_in x2.To (a0.Cities.length:Int)).bind fun (r4:Bool) =>
   if (!(r4)) = true then
    some (.inr (.inr (1)))
   else
    if decide (x2.Days < 1) = true then
     some (.inr (.inr (1)))
    else
     if decide (x2.Days > 20000) = true then
      some (.inr (.inr (1)))
     else
      if sliceOk a0.Usances.length 0 p1 then
       (mrealm_usances_l1 a0 p1 x2 0).bind fun (r7:Unit ⊕ Unit)=>Sum.elim (fun z8 =>
       some (.inl (IntKind.wrap .i64 (p1 + 1)))) (fun z9 =>
       some (.inr (.inr (5)))) r7
      else none
 else
  some (.inr (.inl ()))
noncomputable def mrealm_usances_l2 (a0:GRealm) (p1:Int):Option (Unit ⊕ Int) :=
 Iter (fun (w:Int)=>mrealm_usances_l2_s a0 w) p1
noncomputable def mrealm_usances (a0:GRealm):Option (Int) :=
 if decide ((a0.Usances.length:Int) > 100) = true then
  some 6
 else
  (mrealm_usances_l2 a0 0).bind fun (r11:Unit ⊕ Int)=>Sum.elim (fun z12 =>
  some 0) (fun z13 =>
  some z13) r11
noncomputable def mrealm_rest_l1_s (a0:GRealm) (p1:Int):Option ((Int) ⊕ (Unit ⊕ Unit)) :=
 if decide (p1 < (a0.Rates.length:Int)) = true then
  (at? a0.Rates p1).bind fun (x2:GRate) =>
  (mrealm_in x2.From (a0.Currencies.length:Int)).bind fun (r3:Bool) =>
  if (!(r3)) = true then
   some (.inr (.inr (())))
  else
   (mrealm_in x2.To (a0.Currencies.length:Int)).bind fun (r4:Bool) =>
   if (!(r4)) = true then
    some (.inr (.inr (())))
   else
    if (x2.From == x2.To) = true then
     some (.inr (.inr (())))
    else
     (mrealm_in (IntKind.wrap .i64 (x2.Num - 1)) 1073741824).bind fun (r5:Bool) =>
     if (!(r5)) = true then
      some (.inr (.inr (())))
     else
      (mrealm_in (IntKind.wrap .i64 (x2.Den - 1)) 1073741824).bind fun (r6:Bool) =>
      if (!(r6)) = true then
       some (.inr (.inr (())))
      else
       (mrealm_in x2.Since 100001).bind fun (r7:Bool) =>
       if (!(r7)) = true then
        some (.inr (.inr (())))
       else
        some (.inl (IntKind.wrap .i64 (p1 + 1)))
 else
  some (.inr (.inl ()))
noncomputable def mrealm_rest_l1 (a0:GRealm) (p1:Int):Option (Unit ⊕ Unit) :=
 Iter (fun (w:Int)=>mrealm_rest_l1_s a0 w) p1
noncomputable def mrealm_rest_l2_s (a0:GRealm) (p11:Int):Option ((Int) ⊕ (Unit ⊕ Unit)) :=
 if decide (p11 < (a0.Halts.length:Int)) = true then
  (at? a0.Halts p11).bind fun (x12:GHalt) =>
  (mrealm_in x12.Order (a0.Orders.length:Int)).bind fun (r13:Bool) =>
  if (!(r13)) = true then
   some (.inr (.inr (())))
  else
   if decide (x12.From < 0) = true then
    some (.inr (.inr (())))
   else
    if decide (x12.From > x12.To) = true then
     some (.inr (.inr (())))
    else
     if decide (x12.To > 100000) = true then
      some (.inr (.inr (())))
     else
      some (.inl (IntKind.wrap .i64 (p11 + 1)))
 else
  some (.inr (.inl ()))
noncomputable def mrealm_rest_l2 (a0:GRealm) (p11:Int):Option (Unit ⊕ Unit) :=
 Iter (fun (w:Int)=>mrealm_rest_l2_s a0 w) p11
noncomputable def mrealm_rest (a0:GRealm):Option (Int) :=
 if decide ((a0.Rates.length:Int) > 100) = true then
  some 6
 else
  (mrealm_rest_l1 a0 0).bind fun (r8:Unit ⊕ Unit)=>Sum.elim (fun z9 =>
  if decide ((a0.Halts.length:Int) > 20) = true then
    some 6
   else
    (mrealm_rest_l2 a0 0).bind fun (r14:Unit ⊕ Unit)=>Sum.elim (fun z15 =>
    some 0) (fun z16 =>
    some 1) r14) (fun z10 =>
  some 1) r8
noncomputable def mrealm_Check_l1_s (a0:GRealm) (r1:(List ByteArray) × (List ByteArray) × (List ByteArray)) (p4:Int):Option ((Int) ⊕ (Unit ⊕ Unit)) :=
 if decide (p4 < (a0.Groups.length:Int)) = true then
  (at? a0.Groups p4).bind fun (x5:GGroup) =>
  (mrealm_in x5.Grade 10).bind fun (r6:Bool) =>
  if (!(r6)) = true then
   some (.inr (.inr (())))
  else
   some (.inl (IntKind.wrap .i64 (p4 + 1)))
 else
  some (.inr (.inl ()))
noncomputable def mrealm_Check_l1 (a0:GRealm) (r1:(List ByteArray) × (List ByteArray) × (List ByteArray)) (p4:Int):Option (Unit ⊕ Unit) :=
 Iter (fun (w:Int)=>mrealm_Check_l1_s a0 r1 w) p4
noncomputable def mrealm_Check (a0:GRealm):Option (Int) :=
 (mrealm_names a0).bind fun (r1:(List ByteArray) × (List ByteArray) × (List ByteArray)) =>
 (mrealm_fits_s1 a0.Currencies 8).bind fun (r2:Int) =>
 if (r2 != 0) = true then
  some r2
 else
  (mrealm_fits_s2 r1.1 40 a0).bind fun (r3:Int) =>
  if (r3 != 0) = true then
   some r3
  else
   if decide ((a0.Groups.length:Int) > 20) = true then
    some 6
   else
    (mrealm_Check_l1 a0 r1 0).bind fun (r7:Unit ⊕ Unit)=>Sum.elim (fun z8 =>
    (mrealm_fits_s3 r1.2.1 200 a0).bind fun (r10:Int) =>
     if (r10 != 0) = true then
      some r10
     else
      (mrealm_fits_s4 r1.2.2 20 a0).bind fun (r11:Int) =>
      if (r11 != 0) = true then
       some r11
      else
       (mrealm_usances a0).bind fun (r12:Int) =>
       if (r12 != 0) = true then
        some r12
       else
        (mrealm_rest a0).bind fun (r13:Int) =>
        some r13) (fun z9 =>
    some 1) r7
noncomputable def mrefuse_set_l1_s (a0:List Int) (p1:Int):Option ((Int) ⊕ (Unit ⊕ Unit)) :=
 if decide (p1 < (a0.length:Int)) = true then
  (at? a0 p1).bind fun (x2:Int) =>
  if decide (x2 < 0) = true then
   some (.inr (.inr (())))
  else
   if decide (p1 > 0) = true then
    (at? a0 (IntKind.wrap .i64 (p1 - 1))).bind fun (x3:Int) =>
    if decide (x2 ≤ x3) = true then
     some (.inr (.inr (())))
    else
     some (.inl (IntKind.wrap .i64 (p1 + 1)))
   else
    some (.inl (IntKind.wrap .i64 (p1 + 1)))
 else
  some (.inr (.inl ()))
noncomputable def mrefuse_set_l1 (a0:List Int) (p1:Int):Option (Unit ⊕ Unit) :=
 Iter (fun (w:Int)=>mrefuse_set_l1_s a0 w) p1
noncomputable def mrefuse_set (a0:List Int):Option (Bool) :=
 (mrefuse_set_l1 a0 0).bind fun (r4:Unit ⊕ Unit)=>Sum.elim (fun z5 =>
 if decide ((a0.length:Int) ≥ 1) = true then
   some (decide ((a0.length:Int) ≤ 40))
  else
   some false) (fun z6 =>
 some false) r4
noncomputable def mslices_Equal_int_int_l1_s (a0:List Int) (a1:List Int) (p1:Int):Option ((Int) ⊕ (Unit ⊕ Unit)) :=
 if decide (p1 < (a0.length:Int)) = true then
  (at? a0 p1).bind fun (x2:Int) =>
  (at? a1 p1).bind fun (x3:Int) =>
  if (x2 != x3) = true then
   some (.inr (.inr (())))
  else
   some (.inl (IntKind.wrap .i64 (p1 + 1)))
 else
  some (.inr (.inl ()))
noncomputable def mslices_Equal_int_int_l1 (a0:List Int) (a1:List Int) (p1:Int):Option (Unit ⊕ Unit) :=
 Iter (fun (w:Int)=>mslices_Equal_int_int_l1_s a0 a1 w) p1
noncomputable def mslices_Equal_int_int (a0:List Int) (a1:List Int):Option (Bool) :=
 if ((a0.length:Int) != (a1.length:Int)) = true then
  some false
 else
  (mslices_Equal_int_int_l1 a0 a1 0).bind fun (r4:Unit ⊕ Unit)=>Sum.elim (fun z5 =>
  some true) (fun z6 =>
  some false) r4
noncomputable def mrefuse_has_1_s1 (a0:List Int) (a1:List Int):Option (Bool) :=
 (mslices_Equal_int_int a0 a1).bind fun (r1:Bool) =>
 some r1
noncomputable def mslices_IndexFunc_int_int_s1_l1_s (a0:List (List Int)) (a1:List Int) (p1:Int):Option ((Int) ⊕ (Unit ⊕ Int)) :=
 if decide (p1 < (a0.length:Int)) = true then
  (at? a0 p1).bind fun (x2:List Int) =>
  (mrefuse_has_1_s1 x2 a1).bind fun (r3:Bool) =>
  if r3 = true then
   some (.inr (.inr (p1)))
  else
   some (.inl (IntKind.wrap .i64 (p1 + 1)))
 else
  some (.inr (.inl ()))
noncomputable def mslices_IndexFunc_int_int_s1_l1 (a0:List (List Int)) (a1:List Int) (p1:Int):Option (Unit ⊕ Int) :=
 Iter (fun (w:Int)=>mslices_IndexFunc_int_int_s1_l1_s a0 a1 w) p1
noncomputable def mslices_IndexFunc_int_int_s1 (a0:List (List Int)) (a1:List Int):Option (Int) :=
 (mslices_IndexFunc_int_int_s1_l1 a0 a1 0).bind fun (r5:Unit ⊕ Int)=>Sum.elim (fun z6 =>
 some (-1)) (fun z7 =>
 some z7) r5
noncomputable def mslices_ContainsFunc_int_int_s1 (a0:List (List Int)) (a1:List Int):Option (Bool) :=
 (mslices_IndexFunc_int_int_s1 a0 a1).bind fun (r1:Int) =>
 some (decide (r1 ≥ 0))
noncomputable def mrefuse_has (a0:List (List Int)) (a1:List Int):Option (Bool) :=
 (mslices_ContainsFunc_int_int_s1 a0 a1).bind fun (r1:Bool) =>
 some r1
noncomputable def mrefuse_fine_l1_s (a1:GShown) (p1:Int):Option ((Int) ⊕ (Unit ⊕ Unit)) :=
 if decide (p1 < (a1.Found.length:Int)) = true then
  (at? a1.Found p1).bind fun (x2:List Int) =>
  (mrefuse_set x2).bind fun (r3:Bool) =>
  if (!(r3)) = true then
   some (.inr (.inr (())))
  else
   if sliceOk a1.Found.length 0 p1 then
    (mrefuse_has (sliceL a1.Found 0 p1) x2).bind fun (r4:Bool) =>
    if r4 = true then
     some (.inr (.inr (())))
    else
     some (.inl (IntKind.wrap .i64 (p1 + 1)))
   else none
 else
  some (.inr (.inl ()))
noncomputable def mrefuse_fine_l1 (a1:GShown) (p1:Int):Option (Unit ⊕ Unit) :=
 Iter (fun (w:Int)=>mrefuse_fine_l1_s a1 w) p1
noncomputable def mrefuse_fine_l2_s (a1:GShown) (p8:Int) (p9:Int):Option ((Int × Int) ⊕ (Unit ⊕ Unit)) :=
 if decide (p9 < (a1.Warnings.length:Int)) = true then
  (at? a1.Warnings p9).bind fun (x10:GWarning) =>
  if decide (x10.Day < p8) = true then
   some (.inr (.inr (())))
  else
   if decide (x10.Day > 100000) = true then
    some (.inr (.inr (())))
   else
    if decide ((x10.Names.length:Int) > 60) = true then
     some (.inr (.inr (())))
    else
     some (.inl (x10.Day,IntKind.wrap .i64 (p9 + 1)))
 else
  some (.inr (.inl ()))
noncomputable def mrefuse_fine_l2 (a1:GShown) (p8:Int) (p9:Int):Option (Unit ⊕ Unit) :=
 Iter (fun (w:Int × Int)=>mrefuse_fine_l2_s a1 w.1 w.2) (p8,p9)
noncomputable def mrefuse_fine (a0:GRealm) (a1:GShown):Option (Bool) :=
 if decide (a1.City < 0) = true then
  some false
 else
  if decide (a1.City ≥ (a0.Cities.length:Int)) = true then
   some false
  else
   if decide (a1.Arrived < 0) = true then
    some false
   else
    if decide (a1.Arrived > 100000) = true then
     some false
    else
     if decide ((a1.Found.length:Int) > 40) = true then
      some false
     else
      if decide ((a1.Warnings.length:Int) > 20) = true then
       some false
      else
       (mrefuse_fine_l1 a1 0).bind fun (r5:Unit ⊕ Unit)=>Sum.elim (fun z6 =>
       (mrefuse_fine_l2 a1 a1.Arrived 0).bind fun (r11:Unit ⊕ Unit)=>Sum.elim (fun z12 =>
        some true) (fun z13 =>
        some false) r11) (fun z7 =>
       some false) r5
noncomputable def mcalendar_Plus (a0:GCity) (a1:Int) (a2:Int):Option (Int × Int):=(gTown a0).map fun t=>(Cal.got (Cal.plusAll t a1 a2),Cal.gotE (Cal.plusAll t a1 a2))
noncomputable def mrefuse_last (a0:GRealm) (a1:GShown):Option (Int × Int) :=
 (mrealm_Check a0).bind fun (r1:Int) =>
 if (r1 != 0) = true then
  some (0,r1)
 else
  (mrefuse_fine a0 a1).bind fun (r2:Bool) =>
  if (!(r2)) = true then
   some (0,1)
  else
   (at? a0.Cities a1.City).bind fun (x3:GCity) =>
   (mcalendar_Plus x3 a1.Arrived 5).bind fun (r4:Int × Int) =>
   some (r4.1,r4.2)
noncomputable def mslices_Clone_int_int (a0:List Int):Option ((List Int)):=if a0.length * 8 ≤ 140737488355328 then some a0 else none
noncomputable def mrefuse_missing_l1_s (a0:List (List Int)) (a1:GWarning) (p1:Int) (p2:List (List Int)):Option ((Int × (List (List Int))) ⊕ ((List (List Int)))) :=
 if decide (p1 < (a0.length:Int)) = true then
  (at? a0 p1).bind fun (x3:List Int) =>
  (mrefuse_has a1.Names x3).bind fun (r4:Bool) =>
  if (!(r4)) = true then
   (mslices_Clone_int_int x3).bind fun (r5:(List Int)) =>
   if (p2.length + 1) * 24 ≤ 140737488355328 then
    some (.inl (IntKind.wrap .i64 (p1 + 1),p2 ++ [r5]))
   else none
  else
   some (.inl (IntKind.wrap .i64 (p1 + 1),p2))
 else
  some (.inr (p2))
noncomputable def mrefuse_missing_l1 (a0:List (List Int)) (a1:GWarning) (p1:Int) (p2:List (List Int)):Option ((List (List Int))) :=
 Iter (fun (w:Int × (List (List Int)))=>mrefuse_missing_l1_s a0 a1 w.1 w.2) (p1,p2)
noncomputable def mrefuse_missing (a0:List (List Int)) (a1:GWarning):Option ((List (List Int))) :=
 (mrefuse_missing_l1 a0 a1 0 []).bind fun (r7:(List (List Int))) =>
 some r7
noncomputable def mrefuse_Bound_j1 (a1:GShown) (r1:Int × Int):Option (Int) :=
 (at? a1.Warnings 0).bind fun (x3:GWarning) =>
 if decide (x3.Day ≤ r1.1) = true then
  (mrefuse_missing a1.Found x3).bind fun (r4:(List (List Int))) =>
  if ((r4.length:Int) == 0) = true then
   some (0)
  else
   some (1)
 else
  some (1)
noncomputable def mrefuse_Bound (a0:GRealm) (a1:GShown) (a2:Int):Option (Int × Int) :=
 (mrefuse_last a0 a1).bind fun (r1:Int × Int) =>
 if (r1.2 != 0) = true then
  some (0,r1.2)
 else
  if decide (a2 < a1.Arrived) = true then
   some (2,0)
  else
   if ((a1.Found.length:Int) == 0) = true then
    some (1,0)
   else
    if decide ((a1.Warnings.length:Int) > 0) = true then
     (at? a1.Warnings 0).bind fun (x2:GWarning) =>
     if decide (x2.Day ≤ a2) = true then
      (mrefuse_Bound_j1 a1 r1).bind fun (r6:Int) =>
      some (r6,0)
     else
      if decide (a2 > r1.1) = true then
       some (1,0)
      else
       some (2,0)
    else
     if decide (a2 > r1.1) = true then
      some (1,0)
     else
      some (2,0)
noncomputable def mrefuse_Last (a0:GRealm) (a1:GShown):Option (Int × Int) :=
 (mrefuse_last a0 a1).bind fun (r1:Int × Int) =>
 some (r1.1,r1.2)
noncomputable def mallongelaw36_says (a0:List GWarning) (a1:Int) (a2:Int) (a3:Int):Option (Bool) :=
 (mallongelaw36_example a0).bind fun (r1:GRealm × GShown) =>
 (mrefuse_Bound r1.1 r1.2 8).bind fun (r2:Int × Int) =>
 (mrefuse_Bound r1.1 r1.2 9).bind fun (r3:Int × Int) =>
 (mrefuse_Bound r1.1 r1.2 10).bind fun (r4:Int × Int) =>
 (mrefuse_Last r1.1 r1.2).bind fun (r5:Int × Int) =>
 if (r2.2 == 0) = true then
  if (r3.2 == 0) = true then
   if (r4.2 == 0) = true then
    if (r5.2 == 0) = true then
     if (r2.1 == a1) = true then
      if (r3.1 == a2) = true then
       if (r4.1 == a3) = true then
        some (r5.1 == 9)
       else
        some false
      else
       some false
     else
      some false
    else
     some false
   else
    some false
  else
   some false
 else
  some false
noncomputable def mrefuse_Check (a0:GRealm) (a1:GShown):Option (Int) :=
 (mrefuse_last a0 a1).bind fun (r1:Int × Int) =>
 some r1.2
noncomputable def mallongelaw36_sane:Option (Bool) :=
 (mallongelaw36_says [] 2 2 1).bind fun (r1:Bool) =>
 (mallongelaw36_says [(GWarning.mk 9 [[0],[1,2]])] 2 0 0).bind fun (r2:Bool) =>
 if sliceOk 2 1 (2:Int) then
  (mallongelaw36_says [(GWarning.mk 8 (sliceL [[0],[1,2]] 1 (2:Int))),(GWarning.mk 9 [[0],[1,2]])] 1 1 1).bind fun (r3:Bool) =>
  (mallongelaw36_says [(GWarning.mk 10 [[0],[1,2]])] 2 2 1).bind fun (r4:Bool) =>
  (mallongelaw36_example [(GWarning.mk 1 [])]).bind fun (r5:GRealm × GShown) =>
  if r1 = true then
   if r2 = true then
    if r3 = true then
     if r4 = true then
      (mrefuse_Check r5.1 r5.2).bind fun (r6:Int) =>
      some (r6 == 1)
     else
      some false
    else
     some false
   else
    some false
  else
   some false
 else none
noncomputable def mallongeref09_Few_l1_s (a0:GRealm) (p1:Int):Option ((Int) ⊕ (Unit ⊕ Unit)) :=
 if decide (p1 < (a0.Cities.length:Int)) = true then
  if decide (p1 < 50) = true then
   (at? a0.Cities p1).bind fun (x2:GCity) =>
   if decide ((x2.Feasts.length:Int) > 70) = true then
    some (.inr (.inr (())))
   else
    (at? a0.Cities p1).bind fun (x3:GCity) =>
    if decide ((x3.Shut.length:Int) > 210) = true then
     some (.inr (.inr (())))
    else
     (at? a0.Cities p1).bind fun (x4:GCity) =>
     if decide ((x4.Rest.length:Int) > 8) = true then
      some (.inr (.inr (())))
     else
      some (.inl (IntKind.wrap .i64 (p1 + 1)))
  else
   some (.inr (.inl ()))
 else
  some (.inr (.inl ()))
noncomputable def mallongeref09_Few_l1 (a0:GRealm) (p1:Int):Option (Unit ⊕ Unit) :=
 Iter (fun (w:Int)=>mallongeref09_Few_l1_s a0 w) p1
noncomputable def mallongeref09_Few_l2_s (a0:GRealm) (p8:Int):Option ((Int) ⊕ (Unit ⊕ Unit)) :=
 if decide (p8 < (a0.Orders.length:Int)) = true then
  if decide (p8 < 50) = true then
   (at? a0.Orders p8).bind fun (x9:GOrder) =>
   if decide ((x9.Choices.length:Int) > 40) = true then
    some (.inr (.inr (())))
   else
    (at? a0.Orders p8).bind fun (x10:GOrder) =>
    if decide ((x10.Rules.length:Int) > 40) = true then
     some (.inr (.inr (())))
    else
     some (.inl (IntKind.wrap .i64 (p8 + 1)))
  else
   some (.inr (.inl ()))
 else
  some (.inr (.inl ()))
noncomputable def mallongeref09_Few_l2 (a0:GRealm) (p8:Int):Option (Unit ⊕ Unit) :=
 Iter (fun (w:Int)=>mallongeref09_Few_l2_s a0 w) p8
noncomputable def mallongeref09_Few (a0:GRealm):Option (Bool) :=
 (mallongeref09_Few_l1 a0 0).bind fun (r5:Unit ⊕ Unit)=>Sum.elim (fun z6 =>
 (mallongeref09_Few_l2 a0 0).bind fun (r11:Unit ⊕ Unit)=>Sum.elim (fun z12 =>
  if decide ((a0.Currencies.length:Int) < 50) = true then
    if decide ((a0.Cities.length:Int) < 50) = true then
     if decide ((a0.Groups.length:Int) < 50) = true then
      if decide ((a0.Firms.length:Int) < 210) = true then
       if decide ((a0.Orders.length:Int) < 50) = true then
        if decide ((a0.Usances.length:Int) < 110) = true then
         if decide ((a0.Rates.length:Int) < 110) = true then
          some (decide ((a0.Halts.length:Int) < 50))
         else
          some false
        else
         some false
       else
        some false
      else
       some false
     else
      some false
    else
     some false
   else
    some false) (fun z13 =>
  some false) r11) (fun z7 =>
 some false) r5
noncomputable def mallongeref36_Few_l1_s (a0:GShown) (p1:Int):Option ((Int) ⊕ (Unit ⊕ Unit)) :=
 if decide (p1 < (a0.Found.length:Int)) = true then
  if decide (p1 < 50) = true then
   (at? a0.Found p1).bind fun (x2:List Int) =>
   if decide ((x2.length:Int) > 50) = true then
    some (.inr (.inr (())))
   else
    some (.inl (IntKind.wrap .i64 (p1 + 1)))
  else
   some (.inr (.inl ()))
 else
  some (.inr (.inl ()))
noncomputable def mallongeref36_Few_l1 (a0:GShown) (p1:Int):Option (Unit ⊕ Unit) :=
 Iter (fun (w:Int)=>mallongeref36_Few_l1_s a0 w) p1
noncomputable def mallongeref36_Few_l2_s (a0:GShown) (p6:Int) (p8:Int):Option ((Int) ⊕ (Unit ⊕ Unit)) :=
 (at? a0.Warnings p6).bind fun (x9:GWarning) =>
 if decide (p8 < (x9.Names.length:Int)) = true then
  (at? a0.Warnings p6).bind fun (x10:GWarning) =>
  (at? x10.Names p8).bind fun (x11:List Int) =>
  if decide ((x11.length:Int) > 50) = true then
   some (.inr (.inr (())))
  else
   some (.inl (IntKind.wrap .i64 (p8 + 1)))
 else
  some (.inr (.inl ()))
noncomputable def mallongeref36_Few_l2 (a0:GShown) (p6:Int) (p8:Int):Option (Unit ⊕ Unit) :=
 Iter (fun (w:Int)=>mallongeref36_Few_l2_s a0 p6 w) p8
noncomputable def mallongeref36_Few_l3_s (a0:GShown) (p6:Int):Option ((Int) ⊕ (Unit ⊕ Unit)) :=
 if decide (p6 < (a0.Warnings.length:Int)) = true then
  if decide (p6 < 30) = true then
   (at? a0.Warnings p6).bind fun (x7:GWarning) =>
   if decide ((x7.Names.length:Int) > 70) = true then
    some (.inr (.inr (())))
   else
    (mallongeref36_Few_l2 a0 p6 0).bind fun (r12:Unit ⊕ Unit)=>Sum.elim (fun z13 =>
    some (.inl (IntKind.wrap .i64 (p6 + 1)))) (fun z14 =>
    some (.inr (.inr (())))) r12
  else
   some (.inr (.inl ()))
 else
  some (.inr (.inl ()))
noncomputable def mallongeref36_Few_l3 (a0:GShown) (p6:Int):Option (Unit ⊕ Unit) :=
 Iter (fun (w:Int)=>mallongeref36_Few_l3_s a0 w) p6
noncomputable def mallongeref36_Few (a0:GShown):Option (Bool) :=
 (mallongeref36_Few_l1 a0 0).bind fun (r3:Unit ⊕ Unit)=>Sum.elim (fun z4 =>
 (mallongeref36_Few_l3 a0 0).bind fun (r15:Unit ⊕ Unit)=>Sum.elim (fun z16 =>
  if decide ((a0.Found.length:Int) < 50) = true then
    some (decide ((a0.Warnings.length:Int) < 30))
   else
    some false) (fun z17 =>
  some false) r15) (fun z5 =>
 some false) r3
noncomputable def mallongeref06_SameInts_l1_s (a0:List Int) (a1:List Int) (p1:Int):Option ((Int) ⊕ (Unit ⊕ Unit)) :=
 if decide (p1 < (a0.length:Int)) = true then
  (at? a0 p1).bind fun (x2:Int) =>
  (at? a1 p1).bind fun (x3:Int) =>
  if (x2 != x3) = true then
   some (.inr (.inr (())))
  else
   some (.inl (IntKind.wrap .i64 (p1 + 1)))
 else
  some (.inr (.inl ()))
noncomputable def mallongeref06_SameInts_l1 (a0:List Int) (a1:List Int) (p1:Int):Option (Unit ⊕ Unit) :=
 Iter (fun (w:Int)=>mallongeref06_SameInts_l1_s a0 a1 w) p1
noncomputable def mallongeref06_SameInts (a0:List Int) (a1:List Int):Option (Bool) :=
 if ((a0.length:Int) != (a1.length:Int)) = true then
  some false
 else
  (mallongeref06_SameInts_l1 a0 a1 0).bind fun (r4:Unit ⊕ Unit)=>Sum.elim (fun z5 =>
  some true) (fun z6 =>
  some false) r4
noncomputable def mallongeref36_Has_l1_s (a0:List (List Int)) (a1:List Int) (p1:Int):Option ((Int) ⊕ (Unit ⊕ Unit)) :=
 if decide (p1 < (a0.length:Int)) = true then
  (at? a0 p1).bind fun (x2:List Int) =>
  (mallongeref06_SameInts x2 a1).bind fun (r3:Bool) =>
  if r3 = true then
   some (.inr (.inr (())))
  else
   some (.inl (IntKind.wrap .i64 (p1 + 1)))
 else
  some (.inr (.inl ()))
noncomputable def mallongeref36_Has_l1 (a0:List (List Int)) (a1:List Int) (p1:Int):Option (Unit ⊕ Unit) :=
 Iter (fun (w:Int)=>mallongeref36_Has_l1_s a0 a1 w) p1
noncomputable def mallongeref36_Has (a0:List (List Int)) (a1:List Int):Option (Bool) :=
 (mallongeref36_Has_l1 a0 a1 0).bind fun (r4:Unit ⊕ Unit)=>Sum.elim (fun z5 =>
 some false) (fun z6 =>
 some true) r4
noncomputable def mallongelaw36_RefuseStays_l1_s (a1:GShown) (a2:Int) (r1:Bool) (r5:Int × Int) (r6:Int × Int) (x9:GWarning) (p12:Bool) (p13:Int):Option ((Bool × Int) ⊕ (Bool)) :=
 if decide (p13 < (a1.Found.length:Int)) = true then
  if p12 = true then
   (at? a1.Warnings 0).bind fun (x14:GWarning) =>
   (at? a1.Found p13).bind fun (x15:List Int) =>
   (mallongeref36_Has x14.Names x15).bind fun (r16:Bool) =>
   some (.inl (r16,IntKind.wrap .i64 (p13 + 1)))
  else
   some (.inl (false,IntKind.wrap .i64 (p13 + 1)))
 else
  some (.inr (p12))
noncomputable def mallongelaw36_RefuseStays_l1 (a1:GShown) (a2:Int) (r1:Bool) (r5:Int × Int) (r6:Int × Int) (x9:GWarning) (p12:Bool) (p13:Int):Option (Bool) :=
 Iter (fun (w:Bool × Int)=>mallongelaw36_RefuseStays_l1_s a1 a2 r1 r5 r6 x9 w.1 w.2) (p12,p13)
noncomputable def mallongelaw36_RefuseStays_j2 (a1:GShown) (a2:Int) (r1:Bool) (r5:Int × Int) (r6:Int × Int) (x9:GWarning) (p11:Bool):Option (Bool) :=
 (mallongelaw36_RefuseStays_l1 a1 a2 r1 r5 r6 x9 p11 0).bind fun (r18:Bool) =>
 some (r18)
noncomputable def mallongelaw36_RefuseStays_j3 (a2:Int) (r1:Bool) (r5:Int × Int) (r6:Int × Int) (p23:Bool) (p24:Bool):Option (Bool) :=
 if r1 = true then
  if ((r6.1 == 0) == p24) = true then
   if (r6.1 != 2) = true then
    some (true)
   else
    if decide (a2 ≤ r5.1) = true then
     some (!(p23))
    else
     some (false)
  else
   some (false)
 else
  some (false)
noncomputable def mallongelaw36_RefuseStays_j4 (a1:GShown) (a2:Int) (r1:Bool) (r5:Int × Int) (r6:Int × Int) (p8:Bool):Option (Bool) :=
 if decide ((a1.Warnings.length:Int) > 0) = true then
  (at? a1.Warnings 0).bind fun (x9:GWarning) =>
  if p8 = true then
   if decide (x9.Day ≤ a2) = true then
    (at? a1.Warnings 0).bind fun (x10:GWarning) =>
    (mallongelaw36_RefuseStays_j2 a1 a2 r1 r5 r6 x9 (decide (x10.Day ≤ r5.1))).bind fun (r20:Bool) =>
    (mallongelaw36_RefuseStays_j3 a2 r1 r5 r6 (decide (x9.Day ≤ a2)) r20).bind fun (r26:Bool) =>
    some (r26)
   else
    (mallongelaw36_RefuseStays_j2 a1 a2 r1 r5 r6 x9 false).bind fun (r21:Bool) =>
    (mallongelaw36_RefuseStays_j3 a2 r1 r5 r6 (decide (x9.Day ≤ a2)) r21).bind fun (r27:Bool) =>
    some (r27)
  else
   (mallongelaw36_RefuseStays_j2 a1 a2 r1 r5 r6 x9 false).bind fun (r22:Bool) =>
   (mallongelaw36_RefuseStays_j3 a2 r1 r5 r6 (decide (x9.Day ≤ a2)) r22).bind fun (r28:Bool) =>
   some (r28)
 else
  (mallongelaw36_RefuseStays_j3 a2 r1 r5 r6 false p8).bind fun (r29:Bool) =>
  some (r29)
noncomputable def mallongelaw36_RefuseStays_j5 (a1:GShown) (a2:Int) (r1:Bool) (r5:Int × Int) (r6:Int × Int):Option (Bool) :=
 if decide ((a1.Found.length:Int) > 0) = true then
  (mallongelaw36_RefuseStays_j4 a1 a2 r1 r5 r6 (decide ((a1.Warnings.length:Int) > 0))).bind fun (r31:Bool) =>
  some (r31)
 else
  (mallongelaw36_RefuseStays_j4 a1 a2 r1 r5 r6 false).bind fun (r32:Bool) =>
  some (r32)
noncomputable def mallongelaw36_RefuseStays (a0:GRealm) (a1:GShown) (a2:Int) (a3:Int):Option (Bool) :=
 (mallongelaw36_sane).bind fun (r1:Bool) =>
 (mallongeref09_Few a0).bind fun (r2:Bool) =>
 if (!(r2)) = true then
  some r1
 else
  (mallongeref36_Few a1).bind fun (r3:Bool) =>
  if (!(r3)) = true then
   some r1
  else
   (mrefuse_Check a0 a1).bind fun (r4:Int) =>
   if (r4 != 0) = true then
    some r1
   else
    if decide (a2 < (-1000)) = true then
     some r1
    else
     if decide (a2 > 200000) = true then
      some r1
     else
      if decide (a3 < 0) = true then
       some r1
      else
       if decide (a3 > 200000) = true then
        some r1
       else
        (mrefuse_Last a0 a1).bind fun (r5:Int × Int) =>
        (mrefuse_Bound a0 a1 a2).bind fun (r6:Int × Int) =>
        (mrefuse_Bound a0 a1 (IntKind.wrap .i64 (a2 + a3))).bind fun (r7:Int × Int) =>
        if (r5.2 != 0) = true then
         some false
        else
         if (r6.2 != 0) = true then
          some false
         else
          if (r7.2 != 0) = true then
           some false
          else
           if decide (r6.1 < 0) = true then
            some false
           else
            if decide (r6.1 ≥ 3) = true then
             some false
            else
             if (r6.1 != 2) = true then
              if (r6.1 != r7.1) = true then
               some false
              else
               (mallongelaw36_RefuseStays_j5 a1 a2 r1 r5 r6).bind fun (r34:Bool) =>
               some r34
             else
              (mallongelaw36_RefuseStays_j5 a1 a2 r1 r5 r6).bind fun (r35:Bool) =>
              some r35
noncomputable def mallongelaw36_RefuseOnce_j1 (a0:GRealm) (a1:GShown) (a2:Int) (r1:Bool) (p5:List GWarning):Option (Bool) :=
 (mrefuse_Bound a0 a1 a2).bind fun (r6:Int × Int) =>
 (mrefuse_Bound a0 (GShown.mk a1.City a1.Arrived a1.Found p5) a2).bind fun (r7:Int × Int) =>
 (mrefuse_Bound a0 (GShown.mk a1.City a1.Arrived a1.Found []) a2).bind fun (r8:Int × Int) =>
 (mrefuse_Last a0 (GShown.mk a1.City a1.Arrived a1.Found [])).bind fun (r9:Int × Int) =>
 if (r6.2 != 0) = true then
  some (false)
 else
  if (r7.2 != 0) = true then
   some (false)
  else
   if (r8.2 != 0) = true then
    some (false)
   else
    if (r9.2 != 0) = true then
     some (false)
    else
     if (r6.1 != r7.1) = true then
      some (false)
     else
      if r1 = true then
       if decide (a2 > r9.1) = true then
        if ((r8.1 == 1) == true) = true then
         some (r8.1 != 0)
        else
         some (false)
       else
        if decide (a2 ≥ a1.Arrived) = true then
         if ((r8.1 == 1) == ((a1.Found.length:Int) == 0)) = true then
          some (r8.1 != 0)
         else
          some (false)
        else
         if ((r8.1 == 1) == false) = true then
          some (r8.1 != 0)
         else
          some (false)
      else
       some (false)
noncomputable def mallongelaw36_RefuseOnce (a0:GRealm) (a1:GShown) (a2:Int):Option (Bool) :=
 (mallongelaw36_sane).bind fun (r1:Bool) =>
 (mallongeref09_Few a0).bind fun (r2:Bool) =>
 if (!(r2)) = true then
  some r1
 else
  (mallongeref36_Few a1).bind fun (r3:Bool) =>
  if (!(r3)) = true then
   some r1
  else
   (mrefuse_Check a0 a1).bind fun (r4:Int) =>
   if (r4 != 0) = true then
    some r1
   else
    if decide ((a1.Warnings.length:Int) > 1) = true then
     if sliceOk a1.Warnings.length 0 1 then
      (mallongelaw36_RefuseOnce_j1 a0 a1 a2 r1 (sliceL a1.Warnings 0 1)).bind fun (r11:Bool) =>
      some r11
     else none
    else
     (mallongelaw36_RefuseOnce_j1 a0 a1 a2 r1 a1.Warnings).bind fun (r12:Bool) =>
     some r12
noncomputable def mallongeref09_Letter (a0:Int):Option (Bool) :=
 if decide (97 ≤ a0) = true then
  if decide (a0 ≤ 122) = true then
   some true
  else
   if decide (65 ≤ a0) = true then
    some (decide (a0 ≤ 90))
   else
    some false
 else
  if decide (65 ≤ a0) = true then
   some (decide (a0 ≤ 90))
  else
   some false
noncomputable def mallongeref09_Name_j1 (a0:ByteArray) (p1:Int) (p5:Bool):Option (Unit ⊕ Unit) :=
 (sAt a0 p1).bind fun (x6:Int) =>
 (mallongeref09_Letter x6).bind fun (r7:Bool) =>
 if (!(r7)) = true then
  if (p1 == 0) = true then
   some (.inr (()))
  else
   if (!(p5)) = true then
    some (.inr (()))
   else
    some (.inl ())
 else
  some (.inl ())
noncomputable def mallongeref09_Name_l2_s (a0:ByteArray) (p1:Int):Option ((Int) ⊕ (Unit ⊕ Unit)) :=
 if decide (p1 < (a0.size:Int)) = true then
  (sAt a0 p1).bind fun (x2:Int) =>
  if (x2 == 95) = true then
   (mallongeref09_Name_j1 a0 p1 true).bind fun (r8:Unit ⊕ Unit)=>Sum.elim (fun z9 =>
   some (.inl (IntKind.wrap .i64 (p1 + 1)))) (fun z10 =>
   some (.inr (.inr (())))) r8
  else
   (sAt a0 p1).bind fun (x3:Int) =>
   if decide (48 ≤ x3) = true then
    (sAt a0 p1).bind fun (x4:Int) =>
    (mallongeref09_Name_j1 a0 p1 (decide (x4 ≤ 57))).bind fun (r11:Unit ⊕ Unit)=>Sum.elim (fun z12 =>
    some (.inl (IntKind.wrap .i64 (p1 + 1)))) (fun z13 =>
    some (.inr (.inr (())))) r11
   else
    (mallongeref09_Name_j1 a0 p1 false).bind fun (r14:Unit ⊕ Unit)=>Sum.elim (fun z15 =>
    some (.inl (IntKind.wrap .i64 (p1 + 1)))) (fun z16 =>
    some (.inr (.inr (())))) r14
 else
  some (.inr (.inl ()))
noncomputable def mallongeref09_Name_l2 (a0:ByteArray) (p1:Int):Option (Unit ⊕ Unit) :=
 Iter (fun (w:Int)=>mallongeref09_Name_l2_s a0 w) p1
noncomputable def mallongeref09_Name (a0:ByteArray):Option (Bool) :=
 if decide ((a0.size:Int) < 1) = true then
  some false
 else
  if decide ((a0.size:Int) > 20) = true then
   some false
  else
   (mallongeref09_Name_l2 a0 0).bind fun (r17:Unit ⊕ Unit)=>Sum.elim (fun z18 =>
   some true) (fun z19 =>
   some false) r17
noncomputable def mallongeref09_Before_l1_s (a0:List ByteArray) (a1:Int) (a2:ByteArray) (p1:Int):Option ((Int) ⊕ (Unit ⊕ Unit)) :=
 if decide (p1 < a1) = true then
  if decide (p1 < (a0.length:Int)) = true then
   (at? a0 p1).bind fun (x2:ByteArray) =>
   if (x2.toList == a2.toList) = true then
    some (.inr (.inr (())))
   else
    some (.inl (IntKind.wrap .i64 (p1 + 1)))
  else
   some (.inr (.inl ()))
 else
  some (.inr (.inl ()))
noncomputable def mallongeref09_Before_l1 (a0:List ByteArray) (a1:Int) (a2:ByteArray) (p1:Int):Option (Unit ⊕ Unit) :=
 Iter (fun (w:Int)=>mallongeref09_Before_l1_s a0 a1 a2 w) p1
noncomputable def mallongeref09_Before (a0:List ByteArray) (a1:Int) (a2:ByteArray):Option (Bool) :=
 (mallongeref09_Before_l1 a0 a1 a2 0).bind fun (r3:Unit ⊕ Unit)=>Sum.elim (fun z4 =>
 some false) (fun z5 =>
 some true) r3
noncomputable def mallongeref09_named (a0:List ByteArray) (a1:Int):Option (Int) :=
 (at? a0 a1).bind fun (x1:ByteArray) =>
 (mallongeref09_Name x1).bind fun (r2:Bool) =>
 if (!(r2)) = true then
  some 2
 else
  (at? a0 a1).bind fun (x3:ByteArray) =>
  (mallongeref09_Before a0 a1 x3).bind fun (r4:Bool) =>
  if r4 = true then
   some 5
  else
   some 0
noncomputable def mallongeref09_Within (a0:Int) (a1:Int) (a2:Int):Option (Bool) :=
 if decide (a1 ≤ a0) = true then
  some (decide (a0 ≤ a2))
 else
  some false
noncomputable def mallongeref09_Rising_l1_s (a0:List Int) (a1:Int) (a2:Int) (p1:Int):Option ((Int) ⊕ (Unit ⊕ Unit)) :=
 if decide (p1 < (a0.length:Int)) = true then
  (at? a0 p1).bind fun (x2:Int) =>
  (mallongeref09_Within x2 a1 a2).bind fun (r3:Bool) =>
  if (!(r3)) = true then
   some (.inr (.inr (())))
  else
   if decide (p1 > 0) = true then
    (at? a0 (IntKind.wrap .i64 (p1 - 1))).bind fun (x4:Int) =>
    (at? a0 p1).bind fun (x5:Int) =>
    if decide (x4 ≥ x5) = true then
     some (.inr (.inr (())))
    else
     some (.inl (IntKind.wrap .i64 (p1 + 1)))
   else
    some (.inl (IntKind.wrap .i64 (p1 + 1)))
 else
  some (.inr (.inl ()))
noncomputable def mallongeref09_Rising_l1 (a0:List Int) (a1:Int) (a2:Int) (p1:Int):Option (Unit ⊕ Unit) :=
 Iter (fun (w:Int)=>mallongeref09_Rising_l1_s a0 a1 a2 w) p1
noncomputable def mallongeref09_Rising (a0:List Int) (a1:Int) (a2:Int):Option (Bool) :=
 (mallongeref09_Rising_l1 a0 a1 a2 0).bind fun (r6:Unit ⊕ Unit)=>Sum.elim (fun z7 =>
 some true) (fun z8 =>
 some false) r6
noncomputable def mallongeref09_RightCity_l1_s (a1:GCity) (p3:Int):Option ((Int) ⊕ (Unit ⊕ Unit)) :=
 if decide (p3 < (a1.Feasts.length:Int)) = true then
  (at? a1.Feasts p3).bind fun (x4:Int) =>
  (mallongeref09_Within (IntKind.wrap .i64 (x4.tdiv 100)) 1 12).bind fun (r5:Bool) =>
  if (!(r5)) = true then
   some (.inr (.inr (())))
  else
   (at? a1.Feasts p3).bind fun (x6:Int) =>
   (mallongeref09_Within (x6.tmod 100) 1 31).bind fun (r7:Bool) =>
   if (!(r7)) = true then
    some (.inr (.inr (())))
   else
    some (.inl (IntKind.wrap .i64 (p3 + 1)))
 else
  some (.inr (.inl ()))
noncomputable def mallongeref09_RightCity_l1 (a1:GCity) (p3:Int):Option (Unit ⊕ Unit) :=
 Iter (fun (w:Int)=>mallongeref09_RightCity_l1_s a1 w) p3
noncomputable def mallongeref09_RightCity (a0:GRealm) (a1:GCity):Option (Bool) :=
 (mallongeref09_Within a1.Order 0 (IntKind.wrap .i64 ((a0.Orders.length:Int) - 1))).bind fun (r1:Bool) =>
 if (!(r1)) = true then
  some false
 else
  (mallongeref09_Within a1.Currency 0 (IntKind.wrap .i64 ((a0.Currencies.length:Int) - 1))).bind fun (r2:Bool) =>
  if (!(r2)) = true then
   some false
  else
   if decide ((a1.Feasts.length:Int) > 60) = true then
    some false
   else
    if decide ((a1.Shut.length:Int) > 200) = true then
     some false
    else
     (mallongeref09_RightCity_l1 a1 0).bind fun (r8:Unit ⊕ Unit)=>Sum.elim (fun z9 =>
     (mallongeref09_Rising a1.Rest 0 6).bind fun (r11:Bool) =>
      if r11 = true then
       (mallongeref09_Rising a1.Feasts 0 2000).bind fun (r12:Bool) =>
       if r12 = true then
        (mallongeref09_Rising a1.Shut 0 100000).bind fun (r13:Bool) =>
        some r13
       else
        some false
      else
       some false) (fun z10 =>
     some false) r8
noncomputable def mallongeref09_cities_l1_s (a0:GRealm) (p1:Int):Option ((Int) ⊕ (Unit ⊕ Int)) :=
 if decide (p1 < (a0.Currencies.length:Int)) = true then
  (mallongeref09_named a0.Currencies p1).bind fun (r2:Int) =>
  if (r2 != 0) = true then
   some (.inr (.inr (r2)))
  else
   some (.inl (IntKind.wrap .i64 (p1 + 1)))
 else
  some (.inr (.inl ()))
noncomputable def mallongeref09_cities_l1 (a0:GRealm) (p1:Int):Option (Unit ⊕ Int) :=
 Iter (fun (w:Int)=>mallongeref09_cities_l1_s a0 w) p1
noncomputable def mallongeref09_cities_l2_s (a0:GRealm) (p7:Int) (p8:List ByteArray):Option ((Int × (List ByteArray)) ⊕ (Unit ⊕ Int)) :=
 if decide (p7 < (a0.Cities.length:Int)) = true then
  (at? a0.Cities p7).bind fun (x9:GCity) =>
  if (p8.length + 1) * 16 ≤ 140737488355328 then
   (mallongeref09_named (p8 ++ [x9.Name]) p7).bind fun (r10:Int) =>
   if (r10 != 0) = true then
    some (.inr (.inr (r10)))
   else
    (at? a0.Cities p7).bind fun (x11:GCity) =>
    (mallongeref09_RightCity a0 x11).bind fun (r12:Bool) =>
    if (!(r12)) = true then
     some (.inr (.inr (1)))
    else
     some (.inl (IntKind.wrap .i64 (p7 + 1),p8 ++ [x9.Name]))
  else none
 else
  some (.inr (.inl ()))
noncomputable def mallongeref09_cities_l2 (a0:GRealm) (p7:Int) (p8:List ByteArray):Option (Unit ⊕ Int) :=
 Iter (fun (w:Int × (List ByteArray))=>mallongeref09_cities_l2_s a0 w.1 w.2) (p7,p8)
noncomputable def mallongeref09_cities (a0:GRealm):Option (Int) :=
 if decide ((a0.Currencies.length:Int) > 8) = true then
  some 6
 else
  (mallongeref09_cities_l1 a0 0).bind fun (r4:Unit ⊕ Int)=>Sum.elim (fun z5 =>
  if decide ((a0.Cities.length:Int) > 40) = true then
    some 6
   else
    (mallongeref09_cities_l2 a0 0 []).bind fun (r14:Unit ⊕ Int)=>Sum.elim (fun z15 =>
    some 0) (fun z16 =>
    some z16) r14) (fun z6 =>
  some z6) r4
noncomputable def mallongeref09_firms_l1_s (a0:GRealm) (p1:Int):Option ((Int) ⊕ (Unit ⊕ Unit)) :=
 if decide (p1 < (a0.Groups.length:Int)) = true then
  (at? a0.Groups p1).bind fun (x2:GGroup) =>
  (mallongeref09_Within x2.Grade 0 9).bind fun (r3:Bool) =>
  if (!(r3)) = true then
   some (.inr (.inr (())))
  else
   some (.inl (IntKind.wrap .i64 (p1 + 1)))
 else
  some (.inr (.inl ()))
noncomputable def mallongeref09_firms_l1 (a0:GRealm) (p1:Int):Option (Unit ⊕ Unit) :=
 Iter (fun (w:Int)=>mallongeref09_firms_l1_s a0 w) p1
noncomputable def mallongeref09_firms_l2_s (a0:GRealm) (p7:Int) (p8:List ByteArray):Option ((Int × (List ByteArray)) ⊕ (Unit ⊕ Int)) :=
 if decide (p7 < (a0.Firms.length:Int)) = true then
  (at? a0.Firms p7).bind fun (x9:GFirm) =>
  if (p8.length + 1) * 16 ≤ 140737488355328 then
   (mallongeref09_named (p8 ++ [x9.Name]) p7).bind fun (r10:Int) =>
   if (r10 != 0) = true then
    some (.inr (.inr (r10)))
   else
    (at? a0.Firms p7).bind fun (x11:GFirm) =>
    (mallongeref09_Within x11.City 0 (IntKind.wrap .i64 ((a0.Cities.length:Int) - 1))).bind fun (r12:Bool) =>
    if (!(r12)) = true then
     some (.inr (.inr (1)))
    else
     (at? a0.Firms p7).bind fun (x13:GFirm) =>
     (mallongeref09_Within x13.Group 0 (IntKind.wrap .i64 ((a0.Groups.length:Int) - 1))).bind fun (r14:Bool) =>
     if (!(r14)) = true then
      some (.inr (.inr (1)))
     else
      some (.inl (IntKind.wrap .i64 (p7 + 1),p8 ++ [x9.Name]))
  else none
 else
  some (.inr (.inl ()))
noncomputable def mallongeref09_firms_l2 (a0:GRealm) (p7:Int) (p8:List ByteArray):Option (Unit ⊕ Int) :=
 Iter (fun (w:Int × (List ByteArray))=>mallongeref09_firms_l2_s a0 w.1 w.2) (p7,p8)
noncomputable def mallongeref09_firms (a0:GRealm):Option (Int) :=
 if decide ((a0.Groups.length:Int) > 20) = true then
  some 6
 else
  (mallongeref09_firms_l1 a0 0).bind fun (r4:Unit ⊕ Unit)=>Sum.elim (fun z5 =>
  if decide ((a0.Firms.length:Int) > 200) = true then
    some 6
   else
    (mallongeref09_firms_l2 a0 0 []).bind fun (r16:Unit ⊕ Int)=>Sum.elim (fun z17 =>
    some 0) (fun z18 =>
    some z18) r16) (fun z6 =>
  some 1) r4
noncomputable def mallongeref09_RightOrder_l1_s (a0:GOrder) (p1:Int):Option ((Int) ⊕ (Unit ⊕ Unit)) :=
 if decide (p1 < (a0.Choices.length:Int)) = true then
  (at? a0.Choices p1).bind fun (x2:GChoice) =>
  (mallongeref09_Within x2.Ask 0 21).bind fun (r3:Bool) =>
  if (!(r3)) = true then
   some (.inr (.inr (())))
  else
   (at? a0.Choices p1).bind fun (x4:GChoice) =>
   (mallongeref09_Within x4.By 0 4).bind fun (r5:Bool) =>
   if (!(r5)) = true then
    some (.inr (.inr (())))
   else
    if decide (p1 > 0) = true then
     (at? a0.Choices (IntKind.wrap .i64 (p1 - 1))).bind fun (x6:GChoice) =>
     (at? a0.Choices p1).bind fun (x7:GChoice) =>
     if decide (x6.Ask ≥ x7.Ask) = true then
      some (.inr (.inr (())))
     else
      some (.inl (IntKind.wrap .i64 (p1 + 1)))
    else
     some (.inl (IntKind.wrap .i64 (p1 + 1)))
 else
  some (.inr (.inl ()))
noncomputable def mallongeref09_RightOrder_l1 (a0:GOrder) (p1:Int):Option (Unit ⊕ Unit) :=
 Iter (fun (w:Int)=>mallongeref09_RightOrder_l1_s a0 w) p1
noncomputable def mallongeref09_RightOrder_l2_s (a0:GOrder) (p11:Int):Option ((Int) ⊕ (Unit ⊕ Unit)) :=
 if decide (p11 < (a0.Rules.length:Int)) = true then
  (at? a0.Rules p11).bind fun (x12:GRule) =>
  (mallongeref09_Within x12.Ask 0 21).bind fun (r13:Bool) =>
  if (!(r13)) = true then
   some (.inr (.inr (())))
  else
   if decide (p11 > 0) = true then
    (at? a0.Rules (IntKind.wrap .i64 (p11 - 1))).bind fun (x14:GRule) =>
    (at? a0.Rules p11).bind fun (x15:GRule) =>
    if decide (x14.Ask ≥ x15.Ask) = true then
     some (.inr (.inr (())))
    else
     some (.inl (IntKind.wrap .i64 (p11 + 1)))
   else
    some (.inl (IntKind.wrap .i64 (p11 + 1)))
 else
  some (.inr (.inl ()))
noncomputable def mallongeref09_RightOrder_l2 (a0:GOrder) (p11:Int):Option (Unit ⊕ Unit) :=
 Iter (fun (w:Int)=>mallongeref09_RightOrder_l2_s a0 w) p11
noncomputable def mallongeref09_RightOrder (a0:GOrder):Option (Bool) :=
 (mallongeref09_RightOrder_l1 a0 0).bind fun (r8:Unit ⊕ Unit)=>Sum.elim (fun z9 =>
 (mallongeref09_RightOrder_l2 a0 0).bind fun (r16:Unit ⊕ Unit)=>Sum.elim (fun z17 =>
  some true) (fun z18 =>
  some false) r16) (fun z10 =>
 some false) r8
noncomputable def mallongeref09_orders_l1_s (a0:GRealm) (p1:Int) (p2:List ByteArray):Option ((Int × (List ByteArray)) ⊕ (Unit ⊕ Int)) :=
 if decide (p1 < (a0.Orders.length:Int)) = true then
  (at? a0.Orders p1).bind fun (x3:GOrder) =>
  if (p2.length + 1) * 16 ≤ 140737488355328 then
   (mallongeref09_named (p2 ++ [x3.Name]) p1).bind fun (r4:Int) =>
   if (r4 != 0) = true then
    some (.inr (.inr (r4)))
   else
    (at? a0.Orders p1).bind fun (x5:GOrder) =>
    (mallongeref09_RightOrder x5).bind fun (r6:Bool) =>
    if (!(r6)) = true then
     some (.inr (.inr (1)))
    else
     some (.inl (IntKind.wrap .i64 (p1 + 1),p2 ++ [x3.Name]))
  else none
 else
  some (.inr (.inl ()))
noncomputable def mallongeref09_orders_l1 (a0:GRealm) (p1:Int) (p2:List ByteArray):Option (Unit ⊕ Int) :=
 Iter (fun (w:Int × (List ByteArray))=>mallongeref09_orders_l1_s a0 w.1 w.2) (p1,p2)
noncomputable def mallongeref09_orders (a0:GRealm):Option (Int) :=
 if decide ((a0.Orders.length:Int) > 20) = true then
  some 6
 else
  (mallongeref09_orders_l1 a0 0 []).bind fun (r8:Unit ⊕ Int)=>Sum.elim (fun z9 =>
  some 0) (fun z10 =>
  some z10) r8
noncomputable def mallongeref09_usances_l1_s (a0:GRealm) (p1:Int) (x2:GUsance) (p6:Int):Option ((Int) ⊕ (Unit ⊕ Unit)) :=
 if decide (p6 < p1) = true then
  (at? a0.Usances p6).bind fun (x7:GUsance) =>
  if (x7.From == x2.From) = true then
   (at? a0.Usances p6).bind fun (x8:GUsance) =>
   if (x8.To == x2.To) = true then
    some (.inr (.inr (())))
   else
    some (.inl (IntKind.wrap .i64 (p6 + 1)))
  else
   some (.inl (IntKind.wrap .i64 (p6 + 1)))
 else
  some (.inr (.inl ()))
noncomputable def mallongeref09_usances_l1 (a0:GRealm) (p1:Int) (x2:GUsance) (p6:Int):Option (Unit ⊕ Unit) :=
 Iter (fun (w:Int)=>mallongeref09_usances_l1_s a0 p1 x2 w) p6
noncomputable def mallongeref09_usances_l2_s (a0:GRealm) (p1:Int):Option ((Int) ⊕ (Unit ⊕ Int)) :=
 if decide (p1 < (a0.Usances.length:Int)) = true then
  (at? a0.Usances p1).bind fun (x2:GUsance) =>
  (mallongeref09_Within x2.From 0 (IntKind.wrap .i64 ((a0.Cities.length:Int) - 1))).bind fun (r3:Bool) =>
  if (!(r3)) = true then
   some (.inr (.inr (1)))
  else
   (mallongeref09_Within x2.To 0 (IntKind.wrap .i64 ((a0.Cities.length:Int) - 1))).bind fun (r4:Bool) =>
   if (!(r4)) = true then
    some (.inr (.inr (1)))
   else
    (mallongeref09_Within x2.Days 1 20000).bind fun (r5:Bool) =>
    if (!(r5)) = true then
     some (.inr (.inr (1)))
    else
     (mallongeref09_usances_l1 a0 p1 x2 0).bind fun (r9:Unit ⊕ Unit)=>Sum.elim (fun z10 =>
     some (.inl (IntKind.wrap .i64 (p1 + 1)))) (fun z11 =>
     some (.inr (.inr (5)))) r9
 else
  some (.inr (.inl ()))
noncomputable def mallongeref09_usances_l2 (a0:GRealm) (p1:Int):Option (Unit ⊕ Int) :=
 Iter (fun (w:Int)=>mallongeref09_usances_l2_s a0 w) p1
noncomputable def mallongeref09_usances (a0:GRealm):Option (Int) :=
 if decide ((a0.Usances.length:Int) > 100) = true then
  some 6
 else
  (mallongeref09_usances_l2 a0 0).bind fun (r13:Unit ⊕ Int)=>Sum.elim (fun z14 =>
  some 0) (fun z15 =>
  some z15) r13
noncomputable def mallongeref09_others_l1_s (a0:GRealm) (p1:Int):Option ((Int) ⊕ (Unit ⊕ Unit)) :=
 if decide (p1 < (a0.Rates.length:Int)) = true then
  (at? a0.Rates p1).bind fun (x2:GRate) =>
  (mallongeref09_Within x2.From 0 (IntKind.wrap .i64 ((a0.Currencies.length:Int) - 1))).bind fun (r3:Bool) =>
  if (!(r3)) = true then
   some (.inr (.inr (())))
  else
   (mallongeref09_Within x2.To 0 (IntKind.wrap .i64 ((a0.Currencies.length:Int) - 1))).bind fun (r4:Bool) =>
   if (!(r4)) = true then
    some (.inr (.inr (())))
   else
    if (x2.From == x2.To) = true then
     some (.inr (.inr (())))
    else
     (mallongeref09_Within x2.Num 1 1073741824).bind fun (r5:Bool) =>
     if (!(r5)) = true then
      some (.inr (.inr (())))
     else
      (mallongeref09_Within x2.Den 1 1073741824).bind fun (r6:Bool) =>
      if (!(r6)) = true then
       some (.inr (.inr (())))
      else
       (mallongeref09_Within x2.Since 0 100000).bind fun (r7:Bool) =>
       if (!(r7)) = true then
        some (.inr (.inr (())))
       else
        some (.inl (IntKind.wrap .i64 (p1 + 1)))
 else
  some (.inr (.inl ()))
noncomputable def mallongeref09_others_l1 (a0:GRealm) (p1:Int):Option (Unit ⊕ Unit) :=
 Iter (fun (w:Int)=>mallongeref09_others_l1_s a0 w) p1
noncomputable def mallongeref09_others_l2_s (a0:GRealm) (p11:Int):Option ((Int) ⊕ (Unit ⊕ Unit)) :=
 if decide (p11 < (a0.Halts.length:Int)) = true then
  (at? a0.Halts p11).bind fun (x12:GHalt) =>
  (mallongeref09_Within x12.Order 0 (IntKind.wrap .i64 ((a0.Orders.length:Int) - 1))).bind fun (r13:Bool) =>
  if (!(r13)) = true then
   some (.inr (.inr (())))
  else
   (mallongeref09_Within x12.From 0 x12.To).bind fun (r14:Bool) =>
   if (!(r14)) = true then
    some (.inr (.inr (())))
   else
    if decide (x12.To > 100000) = true then
     some (.inr (.inr (())))
    else
     some (.inl (IntKind.wrap .i64 (p11 + 1)))
 else
  some (.inr (.inl ()))
noncomputable def mallongeref09_others_l2 (a0:GRealm) (p11:Int):Option (Unit ⊕ Unit) :=
 Iter (fun (w:Int)=>mallongeref09_others_l2_s a0 w) p11
noncomputable def mallongeref09_others (a0:GRealm):Option (Int) :=
 if decide ((a0.Rates.length:Int) > 100) = true then
  some 6
 else
  (mallongeref09_others_l1 a0 0).bind fun (r8:Unit ⊕ Unit)=>Sum.elim (fun z9 =>
  if decide ((a0.Halts.length:Int) > 20) = true then
    some 6
   else
    (mallongeref09_others_l2 a0 0).bind fun (r15:Unit ⊕ Unit)=>Sum.elim (fun z16 =>
    some 0) (fun z17 =>
    some 1) r15) (fun z10 =>
  some 1) r8
noncomputable def mallongeref09_Check_j1 (a0:GRealm) (p7:Int):Option (Int) :=
 if (p7 == 0) = true then
  (mallongeref09_others a0).bind fun (r8:Int) =>
  some (r8)
 else
  some (p7)
noncomputable def mallongeref09_Check_j2 (a0:GRealm) (p5:Int):Option (Int) :=
 if (p5 == 0) = true then
  (mallongeref09_usances a0).bind fun (r6:Int) =>
  (mallongeref09_Check_j1 a0 r6).bind fun (r10:Int) =>
  some (r10)
 else
  (mallongeref09_Check_j1 a0 p5).bind fun (r11:Int) =>
  some (r11)
noncomputable def mallongeref09_Check_j3 (a0:GRealm) (p3:Int):Option (Int) :=
 if (p3 == 0) = true then
  (mallongeref09_orders a0).bind fun (r4:Int) =>
  (mallongeref09_Check_j2 a0 r4).bind fun (r13:Int) =>
  some (r13)
 else
  (mallongeref09_Check_j2 a0 p3).bind fun (r14:Int) =>
  some (r14)
noncomputable def mallongeref09_Check (a0:GRealm):Option (Int) :=
 (mallongeref09_cities a0).bind fun (r1:Int) =>
 if (r1 == 0) = true then
  (mallongeref09_firms a0).bind fun (r2:Int) =>
  (mallongeref09_Check_j3 a0 r2).bind fun (r16:Int) =>
  some r16
 else
  (mallongeref09_Check_j3 a0 r1).bind fun (r17:Int) =>
  some r17
noncomputable def mallongeref36_Set_l1_s (a0:List Int) (p1:Int):Option ((Int) ⊕ (Unit ⊕ Unit)) :=
 if decide (p1 < (a0.length:Int)) = true then
  if decide (p1 < 50) = true then
   (at? a0 p1).bind fun (x2:Int) =>
   if decide (x2 < 0) = true then
    some (.inr (.inr (())))
   else
    if decide (p1 > 0) = true then
     (at? a0 (IntKind.wrap .i64 (p1 - 1))).bind fun (x3:Int) =>
     (at? a0 p1).bind fun (x4:Int) =>
     if decide (x3 ≥ x4) = true then
      some (.inr (.inr (())))
     else
      some (.inl (IntKind.wrap .i64 (p1 + 1)))
    else
     some (.inl (IntKind.wrap .i64 (p1 + 1)))
  else
   some (.inr (.inl ()))
 else
  some (.inr (.inl ()))
noncomputable def mallongeref36_Set_l1 (a0:List Int) (p1:Int):Option (Unit ⊕ Unit) :=
 Iter (fun (w:Int)=>mallongeref36_Set_l1_s a0 w) p1
noncomputable def mallongeref36_Set (a0:List Int):Option (Bool) :=
 (mallongeref36_Set_l1 a0 0).bind fun (r5:Unit ⊕ Unit)=>Sum.elim (fun z6 =>
 if decide ((a0.length:Int) ≥ 1) = true then
   some (decide ((a0.length:Int) ≤ 40))
  else
   some false) (fun z7 =>
 some false) r5
noncomputable def mallongeref04_Plus (a0:GCity) (a1:Int) (a2:Int):Option (Int × Int):=(gTown a0).map fun t=>(Cal.got (Cal.plusAll t a1 a2),Cal.gotE (Cal.plusAll t a1 a2))
noncomputable def mallongeref36_Check_l1_s (a0:GRealm) (a1:GShown) (p4:Int):Option ((Int) ⊕ (Unit ⊕ Unit)) :=
 if decide (p4 < (a1.Found.length:Int)) = true then
  (at? a1.Found p4).bind fun (x5:List Int) =>
  (mallongeref36_Set x5).bind fun (r6:Bool) =>
  if (!(r6)) = true then
   some (.inr (.inr (())))
  else
   if sliceOk a1.Found.length 0 p4 then
    (at? a1.Found p4).bind fun (x7:List Int) =>
    (mallongeref36_Has (sliceL a1.Found 0 p4) x7).bind fun (r8:Bool) =>
    if r8 = true then
     some (.inr (.inr (())))
    else
     some (.inl (IntKind.wrap .i64 (p4 + 1)))
   else none
 else
  some (.inr (.inl ()))
noncomputable def mallongeref36_Check_l1 (a0:GRealm) (a1:GShown) (p4:Int):Option (Unit ⊕ Unit) :=
 Iter (fun (w:Int)=>mallongeref36_Check_l1_s a0 a1 w) p4
noncomputable def mallongeref36_Check_j2 (a0:GRealm) (a1:GShown) (p12:Int) (p14:Int):Option (Unit ⊕ Unit) :=
 (at? a1.Warnings p12).bind fun (x15:GWarning) =>
 (mallongeref09_Within x15.Day p14 100000).bind fun (r16:Bool) =>
 if (!(r16)) = true then
  some (.inr (()))
 else
  (at? a1.Warnings p12).bind fun (x17:GWarning) =>
  if decide ((x17.Names.length:Int) > 60) = true then
   some (.inr (()))
  else
   some (.inl ())
noncomputable def mallongeref36_Check_l3_s (a0:GRealm) (a1:GShown) (p12:Int):Option ((Int) ⊕ (Unit ⊕ Unit)) :=
 if decide (p12 < (a1.Warnings.length:Int)) = true then
  if decide (p12 > 0) = true then
   (at? a1.Warnings (IntKind.wrap .i64 (p12 - 1))).bind fun (x13:GWarning) =>
   (mallongeref36_Check_j2 a0 a1 p12 x13.Day).bind fun (r18:Unit ⊕ Unit)=>Sum.elim (fun z19 =>
   some (.inl (IntKind.wrap .i64 (p12 + 1)))) (fun z20 =>
   some (.inr (.inr (())))) r18
  else
   (mallongeref36_Check_j2 a0 a1 p12 a1.Arrived).bind fun (r21:Unit ⊕ Unit)=>Sum.elim (fun z22 =>
   some (.inl (IntKind.wrap .i64 (p12 + 1)))) (fun z23 =>
   some (.inr (.inr (())))) r21
 else
  some (.inr (.inl ()))
noncomputable def mallongeref36_Check_l3 (a0:GRealm) (a1:GShown) (p12:Int):Option (Unit ⊕ Unit) :=
 Iter (fun (w:Int)=>mallongeref36_Check_l3_s a0 a1 w) p12
noncomputable def mallongeref36_Check (a0:GRealm) (a1:GShown):Option (Int) :=
 (mallongeref09_Check a0).bind fun (r1:Int) =>
 if (r1 != 0) = true then
  some r1
 else
  (mallongeref09_Within a1.City 0 (IntKind.wrap .i64 ((a0.Cities.length:Int) - 1))).bind fun (r2:Bool) =>
  if (!(r2)) = true then
   some 1
  else
   (mallongeref09_Within a1.Arrived 0 100000).bind fun (r3:Bool) =>
   if (!(r3)) = true then
    some 1
   else
    if decide ((a1.Found.length:Int) > 40) = true then
     some 1
    else
     if decide ((a1.Warnings.length:Int) > 20) = true then
      some 1
     else
      (mallongeref36_Check_l1 a0 a1 0).bind fun (r9:Unit ⊕ Unit)=>Sum.elim (fun z10 =>
      (mallongeref36_Check_l3 a0 a1 0).bind fun (r24:Unit ⊕ Unit)=>Sum.elim (fun z25 =>
       (at? a0.Cities a1.City).bind fun (x27:GCity) =>
        (mallongeref04_Plus x27 a1.Arrived 5).bind fun (r28:Int × Int) =>
        some r28.2) (fun z26 =>
       some 1) r24) (fun z11 =>
      some 1) r9
noncomputable def mallongeref36_Last (a0:GRealm) (a1:GShown):Option (Int × Int) :=
 (mallongeref36_Check a0 a1).bind fun (r1:Int) =>
 if (r1 != 0) = true then
  some (0,r1)
 else
  (at? a0.Cities a1.City).bind fun (x2:GCity) =>
  (mallongeref04_Plus x2 a1.Arrived 5).bind fun (r3:Int × Int) =>
  some (r3.1,r3.2)
noncomputable def mallongeref36_Missing_j1 (a1:GShown) (p2:Int) (p3:List (List Int)) (p7:Bool):Option ((List (List Int))) :=
 if (!(p7)) = true then
  (at? a1.Found p2).bind fun (x8:List Int) =>
  if (p3.length + 1) * 24 ≤ 140737488355328 then
   some (p3 ++ [x8])
  else none
 else
  some (p3)
noncomputable def mallongeref36_Missing_l2_s (a1:GShown) (p2:Int) (p3:List (List Int)):Option ((Int × (List (List Int))) ⊕ ((List (List Int)))) :=
 if decide (p2 < (a1.Found.length:Int)) = true then
  if decide ((a1.Warnings.length:Int) > 0) = true then
   (at? a1.Warnings 0).bind fun (x4:GWarning) =>
   (at? a1.Found p2).bind fun (x5:List Int) =>
   (mallongeref36_Has x4.Names x5).bind fun (r6:Bool) =>
   (mallongeref36_Missing_j1 a1 p2 p3 r6).bind fun (r10:(List (List Int))) =>
   some (.inl (IntKind.wrap .i64 (p2 + 1),r10))
  else
   (mallongeref36_Missing_j1 a1 p2 p3 false).bind fun (r11:(List (List Int))) =>
   some (.inl (IntKind.wrap .i64 (p2 + 1),r11))
 else
  some (.inr (p3))
noncomputable def mallongeref36_Missing_l2 (a1:GShown) (p2:Int) (p3:List (List Int)):Option ((List (List Int))) :=
 Iter (fun (w:Int × (List (List Int)))=>mallongeref36_Missing_l2_s a1 w.1 w.2) (p2,p3)
noncomputable def mallongeref36_Missing (a0:GRealm) (a1:GShown):Option ((List (List Int))) :=
 (mallongeref36_Check a0 a1).bind fun (r1:Int) =>
 if (r1 != 0) = true then
  some []
 else
  (mallongeref36_Missing_l2 a1 0 []).bind fun (r13:(List (List Int))) =>
  some r13
noncomputable def mallongeref36_Refused (a0:GRealm) (a1:GShown):Option (Int) :=
 if ((a1.Found.length:Int) == 0) = true then
  some (-1)
 else
  if ((a1.Warnings.length:Int) == 0) = true then
   some (-1)
  else
   (mallongeref36_Missing a0 a1).bind fun (r1:(List (List Int))) =>
   if decide ((r1.length:Int) > 0) = true then
    some (-1)
   else
    (mallongeref36_Last a0 a1).bind fun (r2:Int × Int) =>
    if (r2.2 != 0) = true then
     some (-1)
    else
     (at? a1.Warnings 0).bind fun (x3:GWarning) =>
     if decide (x3.Day > r2.1) = true then
      some (-1)
     else
      (at? a1.Warnings 0).bind fun (x4:GWarning) =>
      some x4.Day
noncomputable def mallongeref36_Bound (a0:GRealm) (a1:GShown) (a2:Int):Option (Int × Int) :=
 (mallongeref36_Last a0 a1).bind fun (r1:Int × Int) =>
 if (r1.2 != 0) = true then
  some (0,r1.2)
 else
  if decide (a2 < a1.Arrived) = true then
   some (2,0)
  else
   if ((a1.Found.length:Int) == 0) = true then
    some (1,0)
   else
    if decide ((a1.Warnings.length:Int) > 0) = true then
     (at? a1.Warnings 0).bind fun (x2:GWarning) =>
     if decide (x2.Day ≤ a2) = true then
      (mallongeref36_Refused a0 a1).bind fun (r3:Int) =>
      if decide (r3 ≥ 0) = true then
       some (0,0)
      else
       some (1,0)
     else
      if decide (a2 > r1.1) = true then
       some (1,0)
      else
       some (2,0)
    else
     if decide (a2 > r1.1) = true then
      some (1,0)
     else
      some (2,0)
noncomputable def mrefuse_Missing (a0:GRealm) (a1:GShown):Option ((List (List Int))) :=
 (mrefuse_Check a0 a1).bind fun (r1:Int) =>
 if (r1 != 0) = true then
  some []
 else
  if ((a1.Warnings.length:Int) == 0) = true then
   (mrefuse_missing a1.Found (GWarning.mk 0 [])).bind fun (r2:(List (List Int))) =>
   some r2
  else
   (at? a1.Warnings 0).bind fun (x3:GWarning) =>
   (mrefuse_missing a1.Found x3).bind fun (r4:(List (List Int))) =>
   some r4
noncomputable def mallongeref06_SameLists_l1_s (a0:List (List Int)) (a1:List (List Int)) (p1:Int):Option ((Int) ⊕ (Unit ⊕ Unit)) :=
 if decide (p1 < (a0.length:Int)) = true then
  (at? a0 p1).bind fun (x2:List Int) =>
  (at? a1 p1).bind fun (x3:List Int) =>
  (mallongeref06_SameInts x2 x3).bind fun (r4:Bool) =>
  if (!(r4)) = true then
   some (.inr (.inr (())))
  else
   some (.inl (IntKind.wrap .i64 (p1 + 1)))
 else
  some (.inr (.inl ()))
noncomputable def mallongeref06_SameLists_l1 (a0:List (List Int)) (a1:List (List Int)) (p1:Int):Option (Unit ⊕ Unit) :=
 Iter (fun (w:Int)=>mallongeref06_SameLists_l1_s a0 a1 w) p1
noncomputable def mallongeref06_SameLists (a0:List (List Int)) (a1:List (List Int)):Option (Bool) :=
 if ((a0.length:Int) != (a1.length:Int)) = true then
  some false
 else
  (mallongeref06_SameLists_l1 a0 a1 0).bind fun (r5:Unit ⊕ Unit)=>Sum.elim (fun z6 =>
  some true) (fun z7 =>
  some false) r5
noncomputable def mallongelaw36_RefuseTells (a0:GRealm) (a1:GShown) (a2:Int):Option (Bool) :=
 (mallongelaw36_sane).bind fun (r1:Bool) =>
 (mallongeref09_Few a0).bind fun (r2:Bool) =>
 if (!(r2)) = true then
  some r1
 else
  (mallongeref36_Few a1).bind fun (r3:Bool) =>
  if (!(r3)) = true then
   some r1
  else
   (mrefuse_Last a0 a1).bind fun (r4:Int × Int) =>
   (mallongeref36_Last a0 a1).bind fun (r5:Int × Int) =>
   (mrefuse_Bound a0 a1 a2).bind fun (r6:Int × Int) =>
   (mallongeref36_Bound a0 a1 a2).bind fun (r7:Int × Int) =>
   if r1 = true then
    if (r4.1 == r5.1) = true then
     if (r4.2 == r5.2) = true then
      if (r6.1 == r7.1) = true then
       if (r6.2 == r7.2) = true then
        (mrefuse_Check a0 a1).bind fun (r8:Int) =>
        (mallongeref36_Check a0 a1).bind fun (r9:Int) =>
        if (r8 == r9) = true then
         (mrefuse_Missing a0 a1).bind fun (r10:(List (List Int))) =>
         (mallongeref36_Missing a0 a1).bind fun (r11:(List (List Int))) =>
         (mallongeref06_SameLists r10 r11).bind fun (r12:Bool) =>
         some r12
        else
         some false
       else
        some false
      else
       some false
     else
      some false
    else
     some false
   else
    some false
noncomputable def mallongelaw36_RefuseNames_j1 (a0:GRealm) (a1:GShown) (a2:Int) (a4:Int) (r1:Bool):Option (Bool) :=
 if decide ((a1.Found.length:Int) < 2) = true then
  some (r1)
 else
  if decide (a4 < 0) = true then
   some (r1)
  else
   if decide (a4 ≥ (a1.Found.length:Int)) = true then
    some (r1)
   else
    if sliceOk a1.Found.length 0 a4 then
     if (0 + (sliceL a1.Found 0 a4).length) * 24 ≤ 140737488355328 then
      if sliceOk a1.Found.length (IntKind.wrap .i64 (a4 + 1)) (a1.Found.length:Int) then
       if ((([]:List (List Int)) ++ (sliceL a1.Found 0 a4)).length + (sliceL a1.Found (IntKind.wrap .i64 (a4 + 1)) (a1.Found.length:Int)).length) * 24 ≤ 140737488355328 then
        (mrefuse_Bound a0 (GShown.mk a1.City a1.Arrived ((([]:List (List Int)) ++ (sliceL a1.Found 0 a4)) ++ (sliceL a1.Found (IntKind.wrap .i64 (a4 + 1)) (a1.Found.length:Int))) a1.Warnings) a2).bind fun (r17:Int × Int) =>
        if r1 = true then
         if (r17.2 == 0) = true then
          some (r17.1 == 0)
         else
          some (false)
        else
         some (false)
       else none
      else none
     else none
    else none
noncomputable def mallongelaw36_RefuseNames_j2 (a0:GRealm) (a1:GShown) (a2:Int) (a3:List Int) (a4:Int) (r1:Bool):Option (Bool) :=
 if (0 + a1.Warnings.length) * 32 ≤ 140737488355328 then
  (at? a1.Warnings 0).bind fun (x14:GWarning) =>
  if (0 + x14.Names.length) * 24 ≤ 140737488355328 then
   if ((([]:List (List Int)) ++ x14.Names).length + 1) * 24 ≤ 140737488355328 then
    if 0 ≤ 0 ∧ 0 < (([]:List GWarning) ++ a1.Warnings).length then
     ((([]:List GWarning) ++ a1.Warnings)[0]?).bind fun (x15:GWarning) =>
     (mrefuse_Bound a0 (GShown.mk a1.City a1.Arrived a1.Found ((([]:List GWarning) ++ a1.Warnings).set 0 (GWarning.mk x15.Day ((([]:List (List Int)) ++ x14.Names) ++ [a3])))) a2).bind fun (r16:Int × Int) =>
     if (r16.2 == 0) = true then
      if (r16.1 != 0) = true then
       some (false)
      else
       (mallongelaw36_RefuseNames_j1 a0 a1 a2 a4 r1).bind fun (r19:Bool) =>
       some (r19)
     else
      (mallongelaw36_RefuseNames_j1 a0 a1 a2 a4 r1).bind fun (r20:Bool) =>
      some (r20)
    else none
   else none
  else none
 else none
noncomputable def mallongelaw36_RefuseNames (a0:GRealm) (a1:GShown) (a2:Int) (a3:List Int) (a4:Int):Option (Bool) :=
 (mallongelaw36_sane).bind fun (r1:Bool) =>
 (mallongeref09_Few a0).bind fun (r2:Bool) =>
 if (!(r2)) = true then
  some r1
 else
  (mallongeref36_Few a1).bind fun (r3:Bool) =>
  if (!(r3)) = true then
   some r1
  else
   (mrefuse_Check a0 a1).bind fun (r4:Int) =>
   if (r4 != 0) = true then
    some r1
   else
    if decide ((a3.length:Int) > 50) = true then
     some r1
    else
     (mrefuse_Bound a0 a1 a2).bind fun (r5:Int × Int) =>
     if (r5.1 != 0) = true then
      if r1 = true then
       if (r5.1 != 0) = true then
        some true
       else
        if decide ((a1.Warnings.length:Int) > 0) = true then
         (mrefuse_Missing a0 a1).bind fun (r7:(List (List Int))) =>
         some ((r7.length:Int) == 0)
        else
         some false
      else
       some false
     else
      if ((a1.Warnings.length:Int) == 0) = true then
       if r1 = true then
        if (r5.1 != 0) = true then
         some true
        else
         if decide ((a1.Warnings.length:Int) > 0) = true then
          (mrefuse_Missing a0 a1).bind fun (r8:(List (List Int))) =>
          some ((r8.length:Int) == 0)
         else
          some false
       else
        some false
      else
       (mrefuse_Missing a0 a1).bind fun (r6:(List (List Int))) =>
       if decide ((r6.length:Int) > 0) = true then
        if r1 = true then
         if (r5.1 != 0) = true then
          some true
         else
          if decide ((a1.Warnings.length:Int) > 0) = true then
           (mrefuse_Missing a0 a1).bind fun (r9:(List (List Int))) =>
           some ((r9.length:Int) == 0)
          else
           some false
        else
         some false
       else
        if (0 + a1.Found.length) * 24 ≤ 140737488355328 then
         if ((([]:List (List Int)) ++ a1.Found).length + 1) * 24 ≤ 140737488355328 then
          (mrefuse_Bound a0 (GShown.mk a1.City a1.Arrived ((([]:List (List Int)) ++ a1.Found) ++ [a3]) a1.Warnings) a2).bind fun (r10:Int × Int) =>
          if (r10.2 == 0) = true then
           (at? a1.Warnings 0).bind fun (x11:GWarning) =>
           (mallongeref36_Has x11.Names a3).bind fun (r12:Bool) =>
           if (!(r12)) = true then
            if (r10.1 != 1) = true then
             some false
            else
             (mrefuse_Missing a0 (GShown.mk a1.City a1.Arrived ((([]:List (List Int)) ++ a1.Found) ++ [a3]) a1.Warnings)).bind fun (r13:(List (List Int))) =>
             if ((r13.length:Int) != 1) = true then
              some false
             else
              (mallongelaw36_RefuseNames_j2 a0 a1 a2 a3 a4 r1).bind fun (r22:Bool) =>
              some r22
           else
            (mallongelaw36_RefuseNames_j2 a0 a1 a2 a3 a4 r1).bind fun (r23:Bool) =>
            some r23
          else
           (mallongelaw36_RefuseNames_j2 a0 a1 a2 a3 a4 r1).bind fun (r24:Bool) =>
           some r24
         else none
        else none
noncomputable def mcalendar_Count (a0:GCity) (a1:Int) (a2:Int):Option (Int × Int):=(gTown a0).map fun t=>(Cal.cntV t a1 a2,Cal.cntE a1 a2)
noncomputable def mcalendar_Open (a0:GCity) (a1:Int):Option (Bool × Int):=(gTown a0).map fun t=>(Cal.opB t a1,Cal.dE a1)
noncomputable def mallongelaw36_RefuseDays (a0:GRealm) (a1:GShown):Option (Bool) :=
 (mallongelaw36_sane).bind fun (r1:Bool) =>
 (mallongeref09_Few a0).bind fun (r2:Bool) =>
 if (!(r2)) = true then
  some r1
 else
  (mallongeref36_Few a1).bind fun (r3:Bool) =>
  if (!(r3)) = true then
   some r1
  else
   (mrefuse_Check a0 a1).bind fun (r4:Int) =>
   if (r4 != 0) = true then
    some r1
   else
    (mrefuse_Last a0 a1).bind fun (r5:Int × Int) =>
    if decide (a1.City < 0) = true then
     some false
    else
     if decide (a1.City ≥ (a0.Cities.length:Int)) = true then
      some false
     else
      if (r5.2 != 0) = true then
       some false
      else
       (at? a0.Cities a1.City).bind fun (x6:GCity) =>
       (mcalendar_Count x6 (IntKind.wrap .i64 (a1.Arrived + 1)) r5.1).bind fun (r7:Int × Int) =>
       (at? a0.Cities a1.City).bind fun (x8:GCity) =>
       (mcalendar_Open x8 r5.1).bind fun (r9:Bool × Int) =>
       if r1 = true then
        if (r7.2 == 0) = true then
         if (r9.2 == 0) = true then
          if (r7.1 == 5) = true then
           some r9.1
          else
           some false
         else
          some false
        else
         some false
       else
        some false
end Go.Proofs.Ytjllkddmkdajcaa
