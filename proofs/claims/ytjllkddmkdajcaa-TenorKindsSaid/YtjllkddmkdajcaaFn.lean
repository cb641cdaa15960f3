/- What the functions compute, as plain definitions. Printed by a program. -/
import Derived.Test.YtjllkddmkdajcaaTab
set_option linter.unusedVariables false
set_option linter.unusedSimpArgs false
namespace Go.Proofs.Ytjllkddmkdajcaa
open Vm
open Go.RowKit
def gTown (c:GCity):Option Town:=if c.Rest.length ≤ 140737488355328 ∧ c.Feasts.length ≤ 140737488355328 ∧ c.Shut.length ≤ 140737488355328 then some ⟨c.Rest,c.Feasts,c.Shut⟩ else none
noncomputable def mallongelaw11_example:Option (GRealm) :=
 some (GRealm.mk [(⟨#[102,114,97,110,99]⟩ : ByteArray)] [(GCity.mk (⟨#[76,121,111,110]⟩ : ByteArray) 0 0 [5,6] [] [])] [] [] [(GOrder.mk (⟨#[103,101,110,101,118,97]⟩ : ByteArray) false [] [])] [] [] [(GHalt.mk 0 20 30)])
noncomputable def mrealm_names_l1_s (a0:GRealm) (p1:Int) (p2:List ByteArray):Option ((Int × (List ByteArray)) ⊕ ((List ByteArray))) :=
 if decide (p1 < (a0.Cities.length:Int)) = true then
  (at? a0.Cities p1).bind fun (x3:GCity) =>
  if (p2.length + 1) * 16 ≤ 140737488355328 then
   some (.inl (IntKind.wrap .i64 (p1 + 1),p2 ++ [x3.Name]))
  else none
 else
  some (.inr (p2))
noncomputable def mrealm_names_l1 (a0:GRealm) (p1:Int) (p2:List ByteArray):Option ((List ByteArray)) :=
 Iter (fun (w:Int × (List ByteArray))=>mrealm_names_l1_s a0 w.1 w.2) (p1,p2)
noncomputable def mrealm_names_l2_s (a0:GRealm) (r5:(List ByteArray)) (p6:Int) (p7:List ByteArray):Option ((Int × (List ByteArray)) ⊕ ((List ByteArray))) :=
 if decide (p6 < (a0.Firms.length:Int)) = true then
  (at? a0.Firms p6).bind fun (x8:GFirm) =>
  if (p7.length + 1) * 16 ≤ 140737488355328 then
   some (.inl (IntKind.wrap .i64 (p6 + 1),p7 ++ [x8.Name]))
  else none
 else
  some (.inr (p7))
noncomputable def mrealm_names_l2 (a0:GRealm) (r5:(List ByteArray)) (p6:Int) (p7:List ByteArray):Option ((List ByteArray)) :=
 Iter (fun (w:Int × (List ByteArray))=>mrealm_names_l2_s a0 r5 w.1 w.2) (p6,p7)
noncomputable def mrealm_names_l3_s (a0:GRealm) (r10:(List ByteArray)) (r5:(List ByteArray)) (p11:Int) (p12:List ByteArray):Option ((Int × (List ByteArray)) ⊕ ((List ByteArray))) :=
 if decide (p11 < (a0.Orders.length:Int)) = true then
  (at? a0.Orders p11).bind fun (x13:GOrder) =>
  if (p12.length + 1) * 16 ≤ 140737488355328 then
   some (.inl (IntKind.wrap .i64 (p11 + 1),p12 ++ [x13.Name]))
  else none
 else
  some (.inr (p12))
noncomputable def mrealm_names_l3 (a0:GRealm) (r10:(List ByteArray)) (r5:(List ByteArray)) (p11:Int) (p12:List ByteArray):Option ((List ByteArray)) :=
 Iter (fun (w:Int × (List ByteArray))=>mrealm_names_l3_s a0 r10 r5 w.1 w.2) (p11,p12)
noncomputable def mrealm_names (a0:GRealm):Option ((List ByteArray) × (List ByteArray) × (List ByteArray)) :=
 (mrealm_names_l1 a0 0 []).bind fun (r5:(List ByteArray)) =>
 (mrealm_names_l2 a0 r5 0 []).bind fun (r10:(List ByteArray)) =>
 (mrealm_names_l3 a0 r10 r5 0 []).bind fun (r15:(List ByteArray)) =>
 some (r5,r10,r15)
noncomputable def mrealm_isName_j1 (a0:ByteArray) (p1:Int) (x2:Int) (p3:Bool):Option (Unit ⊕ Unit) :=
 if (!(p3)) = true then
  if (p1 == 0) = true then
   some (.inr (()))
  else
   if (x2 != 95) = true then
    if decide (x2 < 48) = true then
     some (.inr (()))
    else
     if decide (x2 > 57) = true then
      some (.inr (()))
     else
      some (.inl ())
   else
    some (.inl ())
 else
  some (.inl ())
noncomputable def mrealm_isName_l2_s (a0:ByteArray) (p1:Int):Option ((Int) ⊕ (Unit ⊕ Unit)) :=
 if decide (p1 < ((bytesL a0).length:Int)) = true then
  (at? (bytesL a0) p1).bind fun (x2:Int) =>
  if decide (x2 ≥ 97) = true then
   if decide (x2 ≤ 122) = true then
    (mrealm_isName_j1 a0 p1 x2 true).bind fun (r4:Unit ⊕ Unit)=>Sum.elim (fun z5 =>
    some (.inl (IntKind.wrap .i64 (p1 + 1)))) (fun z6 =>
    some (.inr (.inr (())))) r4
   else
    if decide (x2 ≥ 65) = true then
     (mrealm_isName_j1 a0 p1 x2 (decide (x2 ≤ 90))).bind fun (r7:Unit ⊕ Unit)=>Sum.elim (fun z8 =>
     some (.inl (IntKind.wrap .i64 (p1 + 1)))) (fun z9 =>
     some (.inr (.inr (())))) r7
    else
     (mrealm_isName_j1 a0 p1 x2 false).bind fun (r10:Unit ⊕ Unit)=>Sum.elim (fun z11 =>
     some (.inl (IntKind.wrap .i64 (p1 + 1)))) (fun z12 =>
     some (.inr (.inr (())))) r10
  else
   if decide (x2 ≥ 65) = true then
    (mrealm_isName_j1 a0 p1 x2 (decide (x2 ≤ 90))).bind fun (r13:Unit ⊕ Unit)=>Sum.elim (fun z14 =>
    some (.inl (IntKind.wrap .i64 (p1 + 1)))) (fun z15 =>
    some (.inr (.inr (())))) r13
   else
    (mrealm_isName_j1 a0 p1 x2 false).bind fun (r16:Unit ⊕ Unit)=>Sum.elim (fun z17 =>
    some (.inl (IntKind.wrap .i64 (p1 + 1)))) (fun z18 =>
    some (.inr (.inr (())))) r16
 else
  some (.inr (.inl ()))
noncomputable def mrealm_isName_l2 (a0:ByteArray) (p1:Int):Option (Unit ⊕ Unit) :=
 Iter (fun (w:Int)=>mrealm_isName_l2_s a0 w) p1
noncomputable def mrealm_isName (a0:ByteArray):Option (Bool) :=
 if (a0.toList == ByteArray.empty.toList) = true then
  some false
 else
  if decide ((a0.size:Int) > 20) = true then
   some false
  else
   (mrealm_isName_l2 a0 0).bind fun (r19:Unit ⊕ Unit)=>Sum.elim (fun z20 =>
   some true) (fun z21 =>
   some false) r19
noncomputable def mslices_Index_string_string_l1_s (a0:List ByteArray) (a1:ByteArray) (p1:Int):Option ((Int) ⊕ (Unit ⊕ Int)) :=
 if decide (p1 < (a0.length:Int)) = true then
  (at? a0 p1).bind fun (x2:ByteArray) =>
  if (a1.toList == x2.toList) = true then
   some (.inr (.inr (p1)))
  else
   some (.inl (IntKind.wrap .i64 (p1 + 1)))
 else
  some (.inr (.inl ()))
noncomputable def mslices_Index_string_string_l1 (a0:List ByteArray) (a1:ByteArray) (p1:Int):Option (Unit ⊕ Int) :=
 Iter (fun (w:Int)=>mslices_Index_string_string_l1_s a0 a1 w) p1
noncomputable def mslices_Index_string_string (a0:List ByteArray) (a1:ByteArray):Option (Int) :=
 (mslices_Index_string_string_l1 a0 a1 0).bind fun (r4:Unit ⊕ Int)=>Sum.elim (fun z5 =>
 some (-1)) (fun z6 =>
 some z6) r4
noncomputable def mslices_Contains_string_string (a0:List ByteArray) (a1:ByteArray):Option (Bool) :=
 (mslices_Index_string_string a0 a1).bind fun (r1:Int) =>
 some (decide (r1 ≥ 0))
noncomputable def mrealm_named (a0:List ByteArray) (a1:Int):Option (Int) :=
 (at? a0 a1).bind fun (x1:ByteArray) =>
 (mrealm_isName x1).bind fun (r2:Bool) =>
 if (!(r2)) = true then
  some 2
 else
  if sliceOk a0.length 0 a1 then
   (at? a0 a1).bind fun (x3:ByteArray) =>
   (mslices_Contains_string_string (sliceL a0 0 a1) x3).bind fun (r4:Bool) =>
   if r4 = true then
    some 5
   else
    some 0
  else none
noncomputable def mrealm_Check_1 (a0:Int):Option (Bool) :=
 some true
noncomputable def mrealm_fits_s1_l1_s (a0:List ByteArray) (p1:Int):Option ((Int) ⊕ (Unit ⊕ Int)) :=
 if decide (p1 < (a0.length:Int)) = true then
  (mrealm_named a0 p1).bind fun (r2:Int) =>
  if (r2 != 0) = true then
   some (.inr (.inr (r2)))
  else
   (mrealm_Check_1 p1).bind fun (r3:Bool) =>
   if (!(r3)) = true then
    some (.inr (.inr (1)))
   else
    some (.inl (IntKind.wrap .i64 (p1 + 1)))
 else
  some (.inr (.inl ()))
noncomputable def mrealm_fits_s1_l1 (a0:List ByteArray) (p1:Int):Option (Unit ⊕ Int) :=
 Iter (fun (w:Int)=>mrealm_fits_s1_l1_s a0 w) p1
noncomputable def mrealm_fits_s1 (a0:List ByteArray) (a1:Int):Option (Int) :=
 if decide ((a0.length:Int) > a1) = true then
  some 6
 else
  (mrealm_fits_s1_l1 a0 0).bind fun (r5:Unit ⊕ Int)=>Sum.elim (fun z6 =>
  some 0) (fun z7 =>
  some z7) r5
noncomputable def mrealm_in (a0:Int) (a1:Int):Option (Bool) :=
 if decide (a0 ≥ 0) = true then
  some (decide (a0 < a1))
 else
  some false
noncomputable def mrealm_rising_l1_s (a0:List Int) (a1:Int) (a2:Int) (p1:Int):Option ((Int) ⊕ (Unit ⊕ Unit)) :=
 if decide (p1 < (a0.length:Int)) = true then
  (at? a0 p1).bind fun (x2:Int) =>
  if decide (x2 < a1) = true then
   some (.inr (.inr (())))
  else
   if decide (x2 > a2) = true then
    some (.inr (.inr (())))
   else
    if decide (p1 > 0) = true then
     (at? a0 (IntKind.wrap .i64 (p1 - 1))).bind fun (x3:Int) =>
     if decide (x2 ≤ x3) = true then
      some (.inr (.inr (())))
     else
      some (.inl (IntKind.wrap .i64 (p1 + 1)))
    else
     some (.inl (IntKind.wrap .i64 (p1 + 1)))
 else
  some (.inr (.inl ()))
noncomputable def mrealm_rising_l1 (a0:List Int) (a1:Int) (a2:Int) (p1:Int):Option (Unit ⊕ Unit) :=
 Iter (fun (w:Int)=>mrealm_rising_l1_s a0 a1 a2 w) p1
noncomputable def mrealm_rising (a0:List Int) (a1:Int) (a2:Int):Option (Bool) :=
 (mrealm_rising_l1 a0 a1 a2 0).bind fun (r4:Unit ⊕ Unit)=>Sum.elim (fun z5 =>
 some true) (fun z6 =>
 some false) r4
noncomputable def mrealm_city_l1_s (a0:GRealm) (a1:GCity) (p1:Int):Option ((Int) ⊕ (Unit ⊕ Unit)) :=
 if decide (p1 < (a1.Feasts.length:Int)) = true then
  (at? a1.Feasts p1).bind fun (x2:Int) =>
  if decide ((x2.tmod 100) < 1) = true then
   some (.inr (.inr (())))
  else
   if decide ((x2.tmod 100) > 31) = true then
    some (.inr (.inr (())))
   else
    some (.inl (IntKind.wrap .i64 (p1 + 1)))
 else
  some (.inr (.inl ()))
noncomputable def mrealm_city_l1 (a0:GRealm) (a1:GCity) (p1:Int):Option (Unit ⊕ Unit) :=
 Iter (fun (w:Int)=>mrealm_city_l1_s a0 a1 w) p1
noncomputable def mrealm_city (a0:GRealm) (a1:GCity):Option (Bool) :=
 (mrealm_city_l1 a0 a1 0).bind fun (r3:Unit ⊕ Unit)=>Sum.elim (fun z4 =>
 if decide ((a1.Feasts.length:Int) > 60) = true then
   some false
  else
   if decide ((a1.Shut.length:Int) > 200) = true then
    some false
   else
    (mrealm_in a1.Order (a0.Orders.length:Int)).bind fun (r6:Bool) =>
    if (!(r6)) = true then
     some false
    else
     (mrealm_in a1.Currency (a0.Currencies.length:Int)).bind fun (r7:Bool) =>
     if (!(r7)) = true then
      some false
     else
      (mrealm_rising a1.Rest 0 6).bind fun (r8:Bool) =>
      if r8 = true then
       (mrealm_rising a1.Feasts 101 1231).bind fun (r9:Bool) =>
       if r9 = true then
        (mrealm_rising a1.Shut 0 100000).bind fun (r10:Bool) =>
        some r10
       else
        some false
      else
       some false) (fun z5 =>
 some false) r3
noncomputable def mrealm_Check_2_s1 (a0:Int) (a1:GRealm):Option (Bool) :=
 (at? a1.Cities a0).bind fun (x1:GCity) =>
 (mrealm_city a1 x1).bind fun (r2:Bool) =>
 some r2
noncomputable def mrealm_fits_s2_l1_s (a0:List ByteArray) (a2:GRealm) (p1:Int):Option ((Int) ⊕ (Unit ⊕ Int)) :=
 if decide (p1 < (a0.length:Int)) = true then
  (mrealm_named a0 p1).bind fun (r2:Int) =>
  if (r2 != 0) = true then
   some (.inr (.inr (r2)))
  else
   (mrealm_Check_2_s1 p1 a2).bind fun (r3:Bool) =>
   if (!(r3)) = true then
    some (.inr (.inr (1)))
   else
    some (.inl (IntKind.wrap .i64 (p1 + 1)))
 else
  some (.inr (.inl ()))
noncomputable def mrealm_fits_s2_l1 (a0:List ByteArray) (a2:GRealm) (p1:Int):Option (Unit ⊕ Int) :=
 Iter (fun (w:Int)=>mrealm_fits_s2_l1_s a0 a2 w) p1
noncomputable def mrealm_fits_s2 (a0:List ByteArray) (a1:Int) (a2:GRealm):Option (Int) :=
 if decide ((a0.length:Int) > a1) = true then
  some 6
 else
  (mrealm_fits_s2_l1 a0 a2 0).bind fun (r5:Unit ⊕ Int)=>Sum.elim (fun z6 =>
  some 0) (fun z7 =>
  some z7) r5
noncomputable def mrealm_Check_3_s1 (a0:Int) (a1:GRealm):Option (Bool) :=
 (at? a1.Firms a0).bind fun (x1:GFirm) =>
 (mrealm_in x1.City (a1.Cities.length:Int)).bind fun (r2:Bool) =>
 if r2 = true then
  (at? a1.Firms a0).bind fun (x3:GFirm) =>
  (mrealm_in x3.Group (a1.Groups.length:Int)).bind fun (r4:Bool) =>
  some r4
 else
  some false
noncomputable def mrealm_fits_s3_l1_s (a0:List ByteArray) (a2:GRealm) (p1:Int):Option ((Int) ⊕ (Unit ⊕ Int)) :=
 if decide (p1 < (a0.length:Int)) = true then
  (mrealm_named a0 p1).bind fun (r2:Int) =>
  if (r2 != 0) = true then
   some (.inr (.inr (r2)))
  else
   (mrealm_Check_3_s1 p1 a2).bind fun (r3:Bool) =>
   if (!(r3)) = true then
    some (.inr (.inr (1)))
   else
    some (.inl (IntKind.wrap .i64 (p1 + 1)))
 else
  some (.inr (.inl ()))
noncomputable def mrealm_fits_s3_l1 (a0:List ByteArray) (a2:GRealm) (p1:Int):Option (Unit ⊕ Int) :=
 Iter (fun (w:Int)=>mrealm_fits_s3_l1_s a0 a2 w) p1
noncomputable def mrealm_fits_s3 (a0:List ByteArray) (a1:Int) (a2:GRealm):Option (Int) :=
 if decide ((a0.length:Int) > a1) = true then
  some 6
 else
  (mrealm_fits_s3_l1 a0 a2 0).bind fun (r5:Unit ⊕ Int)=>Sum.elim (fun z6 =>
  some 0) (fun z7 =>
  some z7) r5
noncomputable def mrealm_order_l1_s (a0:GOrder) (p1:Int) (p2:List Int):Option ((Int × (List Int)) ⊕ (((List Int)) ⊕ Unit)) :=
 if decide (p1 < (a0.Choices.length:Int)) = true then
  (at? a0.Choices p1).bind fun (x3:GChoice) =>
  if (p2.length + 1) * 8 ≤ 140737488355328 then
   (mrealm_in x3.By 5).bind fun (r4:Bool) =>
   if (!(r4)) = true then
    some (.inr (.inr (())))
   else
    some (.inl (IntKind.wrap .i64 (p1 + 1),p2 ++ [x3.Ask]))
  else none
 else
  some (.inr (.inl p2))
noncomputable def mrealm_order_l1 (a0:GOrder) (p1:Int) (p2:List Int):Option (((List Int)) ⊕ Unit) :=
 Iter (fun (w:Int × (List Int))=>mrealm_order_l1_s a0 w.1 w.2) (p1,p2)
noncomputable def mrealm_order_l2_s (a0:GOrder) (z7:(List Int)) (p9:Int) (p10:List Int):Option ((Int × (List Int)) ⊕ ((List Int))) :=
 if decide (p9 < (a0.Rules.length:Int)) = true then
  (at? a0.Rules p9).bind fun (x11:GRule) =>
  if (p10.length + 1) * 8 ≤ 140737488355328 then
   some (.inl (IntKind.wrap .i64 (p9 + 1),p10 ++ [x11.Ask]))
  else none
 else
  some (.inr (p10))
noncomputable def mrealm_order_l2 (a0:GOrder) (z7:(List Int)) (p9:Int) (p10:List Int):Option ((List Int)) :=
 Iter (fun (w:Int × (List Int))=>mrealm_order_l2_s a0 z7 w.1 w.2) (p9,p10)
noncomputable def mrealm_order (a0:GOrder):Option (Bool) :=
 (mrealm_order_l1 a0 0 []).bind fun (r6:((List Int)) ⊕ Unit)=>Sum.elim (fun z7 =>
 (mrealm_order_l2 a0 z7 0 []).bind fun (r13:(List Int)) =>
  (mrealm_rising z7 0 21).bind fun (r14:Bool) =>
  if r14 = true then
   (mrealm_rising r13 0 21).bind fun (r15:Bool) =>
   some r15
  else
   some false) (fun z8 =>
 some false) r6
noncomputable def mrealm_Check_4_s1 (a0:Int) (a1:GRealm):Option (Bool) :=
 (at? a1.Orders a0).bind fun (x1:GOrder) =>
 (mrealm_order x1).bind fun (r2:Bool) =>
 some r2
noncomputable def mrealm_fits_s4_l1_s (a0:List ByteArray) (a2:GRealm) (p1:Int):Option ((Int) ⊕ (Unit ⊕ Int)) :=
 if decide (p1 < (a0.length:Int)) = true then
  (mrealm_named a0 p1).bind fun (r2:Int) =>
  if (r2 != 0) = true then
   some (.inr (.inr (r2)))
  else
   (mrealm_Check_4_s1 p1 a2).bind fun (r3:Bool) =>
   if (!(r3)) = true then
    some (.inr (.inr (1)))
   else
    some (.inl (IntKind.wrap .i64 (p1 + 1)))
 else
  some (.inr (.inl ()))
noncomputable def mrealm_fits_s4_l1 (a0:List ByteArray) (a2:GRealm) (p1:Int):Option (Unit ⊕ Int) :=
 Iter (fun (w:Int)=>mrealm_fits_s4_l1_s a0 a2 w) p1
noncomputable def mrealm_fits_s4 (a0:List ByteArray) (a1:Int) (a2:GRealm):Option (Int) :=
 if decide ((a0.length:Int) > a1) = true then
  some 6
 else
  (mrealm_fits_s4_l1 a0 a2 0).bind fun (r5:Unit ⊕ Int)=>Sum.elim (fun z6 =>
  some 0) (fun z7 =>
  some z7) r5
noncomputable def mrealm_usances_l1_s (a0:GRealm) (p1:Int) (x2:GUsance) (p5:Int):Option ((Int) ⊕ (Unit ⊕ Unit)) :=
 if decide (p5 < ((sliceL a0.Usances 0 p1).length:Int)) = true then
  (at? (sliceL a0.Usances 0 p1) p5).bind fun (x6:GUsance) =>
  if (x6.From == x2.From) = true then
   if (x6.To == x2.To) = true then
    some (.inr (.inr (())))
   else
    some (.inl (IntKind.wrap .i64 (p5 + 1)))
  else
   some (.inl (IntKind.wrap .i64 (p5 + 1)))
 else
  some (.inr (.inl ()))
noncomputable def mrealm_usances_l1 (a0:GRealm) (p1:Int) (x2:GUsance) (p5:Int):Option (Unit ⊕ Unit) :=
 Iter (fun (w:Int)=>mrealm_usances_l1_s a0 p1 x2 w) p5
noncomputable def mrealm_usances_l2_s (a0:GRealm) (p1:Int):Option ((Int) ⊕ (Unit ⊕ Int)) :=
 if decide (p1 < (a0.Usances.length:Int)) = true then
  (at? a0.Usances p1).bind fun (x2:GUsance) =>
  (mrealm_in x2.From (a0.Cities.length:Int)).bind fun (r3:Bool) =>
  if (!(r3)) = true then
   some (.inr (.inr (1)))
  else
   (mrealm_in x2.To (a0.Cities.length:Int)).bind fun (r4:Bool) =>
   if (!(r4)) = true then
    some (.inr (.inr (1)))
   else
    if decide (x2.Days < 1) = true then
     some (.inr (.inr (1)))
    else
     if decide (x2.Days > 20000) = true then
      some (.inr (.inr (1)))
     else
      if sliceOk a0.Usances.length 0 p1 then
       (mrealm_usances_l1 a0 p1 x2 0).bind fun (r7:Unit ⊕ Unit)=>Sum.elim (fun z8 =>
       some (.inl (IntKind.wrap .i64 (p1 + 1)))) (fun z9 =>
       some (.inr (.inr (5)))) r7
      else none
 else
  some (.inr (.inl ()))
noncomputable def mrealm_usances_l2 (a0:GRealm) (p1:Int):Option (Unit ⊕ Int) :=
 Iter (fun (w:Int)=>mrealm_usances_l2_s a0 w) p1
noncomputable def mrealm_usances (a0:GRealm):Option (Int) :=
 if decide ((a0.Usances.length:Int) > 100) = true then
  some 6
 else
  (mrealm_usances_l2 a0 0).bind fun (r11:Unit ⊕ Int)=>Sum.elim (fun z12 =>
  some 0) (fun z13 =>
  some z13) r11
noncomputable def mrealm_rest_l1_s (a0:GRealm) (p1:Int):Option ((Int) ⊕ (Unit ⊕ Unit)) :=
 if decide (p1 < (a0.Rates.length:Int)) = true then
  (at? a0.Rates p1).bind fun (x2:GRate) =>
  (mrealm_in x2.From (a0.Currencies.length:Int)).bind fun (r3:Bool) =>
  if (!(r3)) = true then
   some (.inr (.inr (())))
  else
   (mrealm_in x2.To (a0.Currencies.length:Int)).bind fun (r4:Bool) =>
   if (!(r4)) = true then
    some (.inr (.inr (())))
   else
    if (x2.From == x2.To) = true then
     some (.inr (.inr (())))
    else
     (mrealm_in (IntKind.wrap .i64 (x2.Num - 1)) 1073741824).bind fun (r5:Bool) =>
     if (!(r5)) = true then
      some (.inr (.inr (())))
     else
      (mrealm_in (IntKind.wrap .i64 (x2.Den - 1)) 1073741824).bind fun (r6:Bool) =>
      if (!(r6)) = true then
       some (.inr (.inr (())))
      else
       (mrealm_in x2.Since 100001).bind fun (r7:Bool) =>
       if (!(r7)) = true then
        some (.inr (.inr (())))
       else
        some (.inl (IntKind.wrap .i64 (p1 + 1)))
 else
  some (.inr (.inl ()))
noncomputable def mrealm_rest_l1 (a0:GRealm) (p1:Int):Option (Unit ⊕ Unit) :=
 Iter (fun (w:Int)=>mrealm_rest_l1_s a0 w) p1
noncomputable def mrealm_rest_l2_s (a0:GRealm) (p11:Int):Option ((Int) ⊕ (Unit ⊕ Unit)) :=
 if decide (p11 < (a0.Halts.length:Int)) = true then
  (at? a0.Halts p11).bind fun (x12:GHalt) =>
  (mrealm_in x12.Order (a0.Orders.length:Int)).bind fun (r13:Bool) =>
  if (!(r13)) = true then
   some (.inr (.inr (())))
  else
   if decide (x12.From < 0) = true then
    some (.inr (.inr (())))
   else
    if decide (x12.From > x12.To) = true then
     some (.inr (.inr (())))
    else
     if decide (x12.To > 100000) = true then
      some (.inr (.inr (())))
     else
      some (.inl (IntKind.wrap .i64 (p11 + 1)))
 else
  some (.inr (.inl ()))
noncomputable def mrealm_rest_l2 (a0:GRealm) (p11:Int):Option (Unit ⊕ Unit) :=
 Iter (fun (w:Int)=>mrealm_rest_l2_s a0 w) p11
noncomputable def mrealm_rest (a0:GRealm):Option (Int) :=
 if decide ((a0.Rates.length:Int) > 100) = true then
  some 6
 else
  (mrealm_rest_l1 a0 0).bind fun (r8:Unit ⊕ Unit)=>Sum.elim (fun z9 =>
  if decide ((a0.Halts.length:Int) > 20) = true then
    some 6
   else
    (mrealm_rest_l2 a0 0).bind fun (r14:Unit ⊕ Unit)=>Sum.elim (fun z15 =>
    some 0) (fun z16 =>
    some 1) r14) (fun z10 =>
  some 1) r8
noncomputable def mrealm_Check_l1_s (a0:GRealm) (r1:(List ByteArray) × (List ByteArray) × (List ByteArray)) (p4:Int):Option ((Int) ⊕ (Unit ⊕ Unit)) :=
 if decide (p4 < (a0.Groups.length:Int)) = true then
  (at? a0.Groups p4).bind fun (x5:GGroup) =>
  (mrealm_in x5.Grade 10).bind fun (r6:Bool) =>
  if (!(r6)) = true then
   some (.inr (.inr (())))
  else
   some (.inl (IntKind.wrap .i64 (p4 + 1)))
 else
  some (.inr (.inl ()))
noncomputable def mrealm_Check_l1 (a0:GRealm) (r1:(List ByteArray) × (List ByteArray) × (List ByteArray)) (p4:Int):Option (Unit ⊕ Unit) :=
 Iter (fun (w:Int)=>mrealm_Check_l1_s a0 r1 w) p4
noncomputable def mrealm_Check (a0:GRealm):Option (Int) :=
 (mrealm_names a0).bind fun (r1:(List ByteArray) × (List ByteArray) × (List ByteArray)) =>
 (mrealm_fits_s1 a0.Currencies 8).bind fun (r2:Int) =>
 if (r2 != 0) = true then
  some r2
 else
  (mrealm_fits_s2 r1.1 40 a0).bind fun (r3:Int) =>
  if (r3 != 0) = true then
   some r3
  else
   if decide ((a0.Groups.length:Int) > 20) = true then
    some 6
   else
    (mrealm_Check_l1 a0 r1 0).bind fun (r7:Unit ⊕ Unit)=>Sum.elim (fun z8 =>
    (mrealm_fits_s3 r1.2.1 200 a0).bind fun (r10:Int) =>
     if (r10 != 0) = true then
      some r10
     else
      (mrealm_fits_s4 r1.2.2 20 a0).bind fun (r11:Int) =>
      if (r11 != 0) = true then
       some r11
      else
       (mrealm_usances a0).bind fun (r12:Int) =>
       if (r12 != 0) = true then
        some r12
       else
        (mrealm_rest a0).bind fun (r13:Int) =>
        some r13) (fun z9 =>
    some 1) r7
noncomputable def mtenor_isCity (a0:GRealm) (a1:Int):Option (Bool) :=
 if decide (a1 ≥ 0) = true then
  some (decide (a1 < (a0.Cities.length:Int)))
 else
  some false
noncomputable def mtenor_isDay (a0:Int):Option (Bool) :=
 if decide (a0 ≥ 0) = true then
  some (decide (a0 ≤ 100000))
 else
  some false
noncomputable def mtenor_Sights (a0:GTenor):Option (Bool) :=
 if (a0.Kind == 0) = true then
  some true
 else
  some (a0.Kind == 1)
noncomputable def mcalendar_AddMonths (a0:Int) (a1:Int):Option (Int × Int):=some (Cal.addV a0 a1,Cal.addE a0 a1)
noncomputable def mtenor_after (a0:Int) (a1:GTenor):Option (Int × Int) :=
 if decide (a1.N < 0) = true then
  some (0,3)
 else
  if decide (a1.N > 20000) = true then
   some (0,3)
  else
   if (a1.Unit == 1) = true then
    (mcalendar_AddMonths a0 a1.N).bind fun (r1:Int × Int) =>
    some (r1.1,r1.2)
   else
    some (IntKind.wrap .i64 (a0 + a1.N),0)
noncomputable def mrealm_Usance_l1_s (a0:GRealm) (a1:Int) (a2:Int) (p1:Int):Option ((Int) ⊕ (Unit ⊕ Int)) :=
 if decide (p1 < (a0.Usances.length:Int)) = true then
  (at? a0.Usances p1).bind fun (x2:GUsance) =>
  if (x2.From == a1) = true then
   if (x2.To == a2) = true then
    some (.inr (.inr (x2.Days)))
   else
    some (.inl (IntKind.wrap .i64 (p1 + 1)))
  else
   some (.inl (IntKind.wrap .i64 (p1 + 1)))
 else
  some (.inr (.inl ()))
noncomputable def mrealm_Usance_l1 (a0:GRealm) (a1:Int) (a2:Int) (p1:Int):Option (Unit ⊕ Int) :=
 Iter (fun (w:Int)=>mrealm_Usance_l1_s a0 a1 a2 w) p1
noncomputable def mrealm_Usance (a0:GRealm) (a1:Int) (a2:Int):Option (Int × Int) :=
 (mrealm_Usance_l1 a0 a1 a2 0).bind fun (r4:Unit ⊕ Int)=>Sum.elim (fun z5 =>
 some (0,4)) (fun z6 =>
 some (z6,0)) r4
noncomputable def mtenor_base (a0:GRealm) (a1:GBill) (a2:Int):Option (Int × Int) :=
 if (a1.Tenor.Kind == 0) = true then
  some (a2,0)
 else
  if (a1.Tenor.Kind == 1) = true then
   (mtenor_after a2 a1.Tenor).bind fun (r1:Int × Int) =>
   some (r1.1,r1.2)
  else
   if (a1.Tenor.Kind == 2) = true then
    (mtenor_after a1.Day a1.Tenor).bind fun (r2:Int × Int) =>
    some (r2.1,r2.2)
   else
    if (a1.Tenor.Kind == 4) = true then
     (mrealm_Usance a0 a1.City a1.Pay).bind fun (r3:Int × Int) =>
     some (IntKind.wrap .i64 (a1.Day + r3.1),r3.2)
    else
     some (a1.Tenor.N,0)
noncomputable def mrealm_OrderAt (a0:GRealm) (a1:Int):Option (Int) :=
 (mrealm_in a1 (a0.Cities.length:Int)).bind fun (r1:Bool) =>
 if (!(r1)) = true then
  some (-1)
 else
  (at? a0.Cities a1).bind fun (x2:GCity) =>
  some x2.Order
noncomputable def mtenor_skip_l1_s (a0:GRealm) (a1:Int) (p3:Int) (p4:Bool) (p5:Int):Option ((Int × Bool × Int) ⊕ (Int × Bool)) :=
 if decide (p5 < (a0.Halts.length:Int)) = true then
  (at? a0.Halts p5).bind fun (x6:GHalt) =>
  if (x6.Order == a1) = true then
   if decide (x6.From ≤ p3) = true then
    if decide (p3 ≤ x6.To) = true then
     some (.inl (IntKind.wrap .i64 (x6.To + 1),true,IntKind.wrap .i64 (p5 + 1)))
    else
     some (.inl (p3,p4,IntKind.wrap .i64 (p5 + 1)))
   else
    some (.inl (p3,p4,IntKind.wrap .i64 (p5 + 1)))
  else
   some (.inl (p3,p4,IntKind.wrap .i64 (p5 + 1)))
 else
  some (.inr ((p3,p4)))
noncomputable def mtenor_skip_l1 (a0:GRealm) (a1:Int) (p3:Int) (p4:Bool) (p5:Int):Option (Int × Bool) :=
 Iter (fun (w:Int × Bool × Int)=>mtenor_skip_l1_s a0 a1 w.1 w.2.1 w.2.2) (p3,p4,p5)
noncomputable def mtenor_skip_l2_s (a0:GRealm) (a1:Int) (p1:Int) (p2:Bool):Option ((Int × Bool) ⊕ (Int)) :=
 if p2 = true then
  (mtenor_skip_l1 a0 a1 p1 false 0).bind fun (r9:Int × Bool) =>
  some (.inl (r9.1,r9.2))
 else
  some (.inr (p1))
noncomputable def mtenor_skip_l2 (a0:GRealm) (a1:Int) (p1:Int) (p2:Bool):Option (Int) :=
 Iter (fun (w:Int × Bool)=>mtenor_skip_l2_s a0 a1 w.1 w.2) (p1,p2)
noncomputable def mtenor_skip (a0:GRealm) (a1:Int) (a2:Int):Option (Int) :=
 (mtenor_skip_l2 a0 a1 a2 true).bind fun (r11:Int) =>
 some r11
noncomputable def mcalendar_Next (a0:GCity) (a1:Int):Option (Int × Int):=(gTown a0).map fun t=>(Cal.got (Cal.nx1 t a1),Cal.gotE (Cal.nx1 t a1))
noncomputable def mtenor_settle_l1_s (a0:GRealm) (a1:Int) (r1:Int) (p2:Int):Option ((Int) ⊕ (Int × Int)) :=
 (mtenor_skip a0 r1 p2).bind fun (r3:Int) =>
 (at? a0.Cities a1).bind fun (x4:GCity) =>
 (mcalendar_Next x4 r3).bind fun (r5:Int × Int) =>
 if (r5.2 != 0) = true then
  some (.inr ((0,3)))
 else
  if (r5.1 == r3) = true then
   some (.inr ((r3,0)))
  else
   some (.inl r5.1)
noncomputable def mtenor_settle_l1 (a0:GRealm) (a1:Int) (r1:Int) (p2:Int):Option (Int × Int) :=
 Iter (fun (w:Int)=>mtenor_settle_l1_s a0 a1 r1 w) p2
noncomputable def mtenor_settle (a0:GRealm) (a1:Int) (a2:Int):Option (Int × Int) :=
 (mrealm_OrderAt a0 a1).bind fun (r1:Int) =>
 (mtenor_settle_l1 a0 a1 r1 a2).bind fun (r8:Int × Int) =>
 some (r8.1,r8.2)
noncomputable def mtenor_Due_j1 (a0:GRealm) (a1:GBill) (a2:Int) (a3:Int):Option (Unit ⊕ Int) :=
 if (a2 != (-1)) = true then
  (mtenor_isDay a2).bind fun (r5:Bool) =>
  if (!(r5)) = true then
   some (.inr (1))
  else
   if decide (a3 < 0) = true then
    some (.inr (1))
   else
    if decide (a3 > 20000) = true then
     some (.inr (1))
    else
     (mtenor_Sights a1.Tenor).bind fun (r6:Bool) =>
     if r6 = true then
      if (a2 == (-1)) = true then
       some (.inr (4))
      else
       some (.inl ())
     else
      some (.inl ())
 else
  if decide (a3 < 0) = true then
   some (.inr (1))
  else
   if decide (a3 > 20000) = true then
    some (.inr (1))
   else
    (mtenor_Sights a1.Tenor).bind fun (r7:Bool) =>
    if r7 = true then
     if (a2 == (-1)) = true then
      some (.inr (4))
     else
      some (.inl ())
    else
     some (.inl ())
noncomputable def mtenor_Due_j2 (a0:GRealm) (a1:GBill) (a2:Int) (a3:Int):Option (Unit ⊕ Int) :=
 if decide (a1.Tenor.Kind < 0) = true then
  some (.inr (1))
 else
  if decide (a1.Tenor.Kind ≥ 5) = true then
   some (.inr (1))
  else
   if decide (a1.Tenor.Unit < 0) = true then
    some (.inr (1))
   else
    if decide (a1.Tenor.Unit ≥ 2) = true then
     some (.inr (1))
    else
     (mtenor_Due_j1 a0 a1 a2 a3).bind fun (r9:Unit ⊕ Int)=>Sum.elim (fun z10 =>
     some (.inl ())) (fun z11 =>
     some (.inr (z11))) r9
noncomputable def mtenor_Due (a0:GRealm) (a1:GBill) (a2:Int) (a3:Int):Option (Int × Int) :=
 (mrealm_Check a0).bind fun (r1:Int) =>
 if (r1 != 0) = true then
  some (0,1)
 else
  (mtenor_isCity a0 a1.City).bind fun (r2:Bool) =>
  if (!(r2)) = true then
   some (0,1)
  else
   (mtenor_isCity a0 a1.Pay).bind fun (r3:Bool) =>
   if (!(r3)) = true then
    some (0,1)
   else
    (mtenor_isDay a1.Day).bind fun (r4:Bool) =>
    if (!(r4)) = true then
     some (0,1)
    else
     (mtenor_Due_j2 a0 a1 a2 a3).bind fun (r13:Unit ⊕ Int)=>Sum.elim (fun z14 =>
     (mtenor_base a0 a1 a2).bind fun (r16:Int × Int) =>
      if (r16.2 != 0) = true then
       some (0,r16.2)
      else
       (mtenor_isDay r16.1).bind fun (r17:Bool) =>
       if (!(r17)) = true then
        some (0,3)
       else
        if decide ((IntKind.wrap .i64 (r16.1 + a3)) > 100000) = true then
         some (0,3)
        else
         (mtenor_settle a0 a1.Pay (IntKind.wrap .i64 (r16.1 + a3))).bind fun (r18:Int × Int) =>
         some (r18.1,r18.2)) (fun z15 =>
     some (0,z15)) r13
noncomputable def mtenor_Settle (a0:GRealm) (a1:Int) (a2:Int):Option (Int × Int) :=
 (mrealm_Check a0).bind fun (r1:Int) =>
 if (r1 != 0) = true then
  some (0,1)
 else
  (mtenor_isCity a0 a1).bind fun (r2:Bool) =>
  if (!(r2)) = true then
   some (0,1)
  else
   (mtenor_isDay a2).bind fun (r3:Bool) =>
   if (!(r3)) = true then
    some (0,1)
   else
    (mtenor_settle a0 a1 a2).bind fun (r4:Int × Int) =>
    some (r4.1,r4.2)
noncomputable def mallongelaw11_sane_j1 (r2:Int × Int) (r3:Int × Int) (r4:Int × Int) (r6:Int × Int) (r7:Int × Int) (p8:Bool):Option (Bool) :=
 if p8 = true then
  if (r2.1 == 6) = true then
   if (r3.1 == 9) = true then
    if (r4.1 == 6) = true then
     if (r6.1 == 31) = true then
      if (r7.1 == 16) = true then
       (mtenor_Sights (GTenor.mk 1 2 0)).bind fun (r9:Bool) =>
       if r9 = true then
        (mtenor_Sights (GTenor.mk 2 3 0)).bind fun (r10:Bool) =>
        some (!(r10))
       else
        some (false)
      else
       some (false)
     else
      some (false)
    else
     some (false)
   else
    some (false)
  else
   some (false)
 else
  some (false)
noncomputable def mallongelaw11_sane:Option (Bool) :=
 (mallongelaw11_example).bind fun (r1:GRealm) =>
 (mtenor_Due r1 (GBill.mk 0 0 0 0 0 (GTenor.mk 2 3 0) 3 0 0 0 0 0 0) (-1) 0).bind fun (r2:Int × Int) =>
 (mtenor_Due r1 (GBill.mk 0 0 0 0 0 (GTenor.mk 2 3 0) 3 0 0 0 0 0 0) (-1) 1).bind fun (r3:Int × Int) =>
 (mtenor_Due r1 (GBill.mk 0 0 0 0 0 (GTenor.mk 1 2 0) 3 0 0 0 0 0 0) 4 0).bind fun (r4:Int × Int) =>
 (mtenor_Due r1 (GBill.mk 0 0 0 0 0 (GTenor.mk 1 2 0) 3 0 0 0 0 0 0) (-1) 0).bind fun (r5:Int × Int) =>
 (mtenor_Settle r1 0 21).bind fun (r6:Int × Int) =>
 (mtenor_Settle r1 0 14).bind fun (r7:Int × Int) =>
 if (r2.2 == 0) = true then
  if (r3.2 == 0) = true then
   if (r4.2 == 0) = true then
    if (r5.2 == 4) = true then
     if (r6.2 == 0) = true then
      (mallongelaw11_sane_j1 r2 r3 r4 r6 r7 (r7.2 == 0)).bind fun (r12:Bool) =>
      some r12
     else
      (mallongelaw11_sane_j1 r2 r3 r4 r6 r7 false).bind fun (r13:Bool) =>
      some r13
    else
     (mallongelaw11_sane_j1 r2 r3 r4 r6 r7 false).bind fun (r14:Bool) =>
     some r14
   else
    (mallongelaw11_sane_j1 r2 r3 r4 r6 r7 false).bind fun (r15:Bool) =>
    some r15
  else
   (mallongelaw11_sane_j1 r2 r3 r4 r6 r7 false).bind fun (r16:Bool) =>
   some r16
 else
  (mallongelaw11_sane_j1 r2 r3 r4 r6 r7 false).bind fun (r17:Bool) =>
  some r17
noncomputable def mallongeref09_Few_l1_s (a0:GRealm) (p1:Int):Option ((Int) ⊕ (Unit ⊕ Unit)) :=
 if decide (p1 < (a0.Cities.length:Int)) = true then
  if decide (p1 < 50) = true then
   (at? a0.Cities p1).bind fun (x2:GCity) =>
   if decide ((x2.Feasts.length:Int) > 70) = true then
    some (.inr (.inr (())))
   else
    (at? a0.Cities p1).bind fun (x3:GCity) =>
    if decide ((x3.Shut.length:Int) > 210) = true then
     some (.inr (.inr (())))
    else
     (at? a0.Cities p1).bind fun (x4:GCity) =>
     if decide ((x4.Rest.length:Int) > 8) = true then
      some (.inr (.inr (())))
     else
      some (.inl (IntKind.wrap .i64 (p1 + 1)))
  else
   some (.inr (.inl ()))
 else
  some (.inr (.inl ()))
noncomputable def mallongeref09_Few_l1 (a0:GRealm) (p1:Int):Option (Unit ⊕ Unit) :=
 Iter (fun (w:Int)=>mallongeref09_Few_l1_s a0 w) p1
noncomputable def mallongeref09_Few_l2_s (a0:GRealm) (p8:Int):Option ((Int) ⊕ (Unit ⊕ Unit)) :=
 if decide (p8 < (a0.Orders.length:Int)) = true then
  if decide (p8 < 50) = true then
   (at? a0.Orders p8).bind fun (x9:GOrder) =>
   if decide ((x9.Choices.length:Int) > 40) = true then
    some (.inr (.inr (())))
   else
    (at? a0.Orders p8).bind fun (x10:GOrder) =>
    if decide ((x10.Rules.length:Int) > 40) = true then
     some (.inr (.inr (())))
    else
     some (.inl (IntKind.wrap .i64 (p8 + 1)))
  else
   some (.inr (.inl ()))
 else
  some (.inr (.inl ()))
noncomputable def mallongeref09_Few_l2 (a0:GRealm) (p8:Int):Option (Unit ⊕ Unit) :=
 Iter (fun (w:Int)=>mallongeref09_Few_l2_s a0 w) p8
noncomputable def mallongeref09_Few (a0:GRealm):Option (Bool) :=
 (mallongeref09_Few_l1 a0 0).bind fun (r5:Unit ⊕ Unit)=>Sum.elim (fun z6 =>
 (mallongeref09_Few_l2 a0 0).bind fun (r11:Unit ⊕ Unit)=>Sum.elim (fun z12 =>
  if decide ((a0.Currencies.length:Int) < 50) = true then
    if decide ((a0.Cities.length:Int) < 50) = true then
     if decide ((a0.Groups.length:Int) < 50) = true then
      if decide ((a0.Firms.length:Int) < 210) = true then
       if decide ((a0.Orders.length:Int) < 50) = true then
        if decide ((a0.Usances.length:Int) < 110) = true then
         if decide ((a0.Rates.length:Int) < 110) = true then
          some (decide ((a0.Halts.length:Int) < 50))
         else
          some false
        else
         some false
       else
        some false
      else
       some false
     else
      some false
    else
     some false
   else
    some false) (fun z13 =>
  some false) r11) (fun z7 =>
 some false) r5
noncomputable def mallongeref09_Letter (a0:Int):Option (Bool) :=
 if decide (97 ≤ a0) = true then
  if decide (a0 ≤ 122) = true then
   some true
  else
   if decide (65 ≤ a0) = true then
    some (decide (a0 ≤ 90))
   else
    some false
 else
  if decide (65 ≤ a0) = true then
   some (decide (a0 ≤ 90))
  else
   some false
noncomputable def mallongeref09_Name_j1 (a0:ByteArray) (p1:Int) (p5:Bool):Option (Unit ⊕ Unit) :=
 (sAt a0 p1).bind fun (x6:Int) =>
 (mallongeref09_Letter x6).bind fun (r7:Bool) =>
 if (!(r7)) = true then
  if (p1 == 0) = true then
   some (.inr (()))
  else
   if (!(p5)) = true then
    some (.inr (()))
   else
    some (.inl ())
 else
  some (.inl ())
noncomputable def mallongeref09_Name_l2_s (a0:ByteArray) (p1:Int):Option ((Int) ⊕ (Unit ⊕ Unit)) :=
 if decide (p1 < (a0.size:Int)) = true then
  (sAt a0 p1).bind fun (x2:Int) =>
  if (x2 == 95) = true then
   (mallongeref09_Name_j1 a0 p1 true).bind fun (r8:Unit ⊕ Unit)=>Sum.elim (fun z9 =>
   some (.inl (IntKind.wrap .i64 (p1 + 1)))) (fun z10 =>
   some (.inr (.inr (())))) r8
  else
   (sAt a0 p1).bind fun (x3:Int) =>
   if decide (48 ≤ x3) = true then
    (sAt a0 p1).bind fun (x4:Int) =>
    (mallongeref09_Name_j1 a0 p1 (decide (x4 ≤ 57))).bind fun (r11:Unit ⊕ Unit)=>Sum.elim (fun z12 =>
    some (.inl (IntKind.wrap .i64 (p1 + 1)))) (fun z13 =>
    some (.inr (.inr (())))) r11
   else
    (mallongeref09_Name_j1 a0 p1 false).bind fun (r14:Unit ⊕ Unit)=>Sum.elim (fun z15 =>
    some (.inl (IntKind.wrap .i64 (p1 + 1)))) (fun z16 =>
    some (.inr (.inr (())))) r14
 else
  some (.inr (.inl ()))
noncomputable def mallongeref09_Name_l2 (a0:ByteArray) (p1:Int):Option (Unit ⊕ Unit) :=
 Iter (fun (w:Int)=>mallongeref09_Name_l2_s a0 w) p1
noncomputable def mallongeref09_Name (a0:ByteArray):Option (Bool) :=
 if decide ((a0.size:Int) < 1) = true then
  some false
 else
  if decide ((a0.size:Int) > 20) = true then
   some false
  else
   (mallongeref09_Name_l2 a0 0).bind fun (r17:Unit ⊕ Unit)=>Sum.elim (fun z18 =>
   some true) (fun z19 =>
   some false) r17
noncomputable def mallongeref09_Before_l1_s (a0:List ByteArray) (a1:Int) (a2:ByteArray) (p1:Int):Option ((Int) ⊕ (Unit ⊕ Unit)) :=
 if decide (p1 < a1) = true then
  if decide (p1 < (a0.length:Int)) = true then
   (at? a0 p1).bind fun (x2:ByteArray) =>
   if (x2.toList == a2.toList) = true then
    some (.inr (.inr (())))
   else
    some (.inl (IntKind.wrap .i64 (p1 + 1)))
  else
   some (.inr (.inl ()))
 else
  some (.inr (.inl ()))
noncomputable def mallongeref09_Before_l1 (a0:List ByteArray) (a1:Int) (a2:ByteArray) (p1:Int):Option (Unit ⊕ Unit) :=
 Iter (fun (w:Int)=>mallongeref09_Before_l1_s a0 a1 a2 w) p1
noncomputable def mallongeref09_Before (a0:List ByteArray) (a1:Int) (a2:ByteArray):Option (Bool) :=
 (mallongeref09_Before_l1 a0 a1 a2 0).bind fun (r3:Unit ⊕ Unit)=>Sum.elim (fun z4 =>
 some false) (fun z5 =>
 some true) r3
noncomputable def mallongeref09_named (a0:List ByteArray) (a1:Int):Option (Int) :=
 (at? a0 a1).bind fun (x1:ByteArray) =>
 (mallongeref09_Name x1).bind fun (r2:Bool) =>
 if (!(r2)) = true then
  some 2
 else
  (at? a0 a1).bind fun (x3:ByteArray) =>
  (mallongeref09_Before a0 a1 x3).bind fun (r4:Bool) =>
  if r4 = true then
   some 5
  else
   some 0
noncomputable def mallongeref09_Within (a0:Int) (a1:Int) (a2:Int):Option (Bool) :=
 if decide (a1 ≤ a0) = true then
  some (decide (a0 ≤ a2))
 else
  some false
noncomputable def mallongeref09_Rising_l1_s (a0:List Int) (a1:Int) (a2:Int) (p1:Int):Option ((Int) ⊕ (Unit ⊕ Unit)) :=
 if decide (p1 < (a0.length:Int)) = true then
  (at? a0 p1).bind fun (x2:Int) =>
  (mallongeref09_Within x2 a1 a2).bind fun (r3:Bool) =>
  if (!(r3)) = true then
   some (.inr (.inr (())))
  else
   if decide (p1 > 0) = true then
    (at? a0 (IntKind.wrap .i64 (p1 - 1))).bind fun (x4:Int) =>
    (at? a0 p1).bind fun (x5:Int) =>
    if decide (x4 ≥ x5) = true then
     some (.inr (.inr (())))
    else
     some (.inl (IntKind.wrap .i64 (p1 + 1)))
   else
    some (.inl (IntKind.wrap .i64 (p1 + 1)))
 else
  some (.inr (.inl ()))
noncomputable def mallongeref09_Rising_l1 (a0:List Int) (a1:Int) (a2:Int) (p1:Int):Option (Unit ⊕ Unit) :=
 Iter (fun (w:Int)=>mallongeref09_Rising_l1_s a0 a1 a2 w) p1
noncomputable def mallongeref09_Rising (a0:List Int) (a1:Int) (a2:Int):Option (Bool) :=
 (mallongeref09_Rising_l1 a0 a1 a2 0).bind fun (r6:Unit ⊕ Unit)=>Sum.elim (fun z7 =>
 some true) (fun z8 =>
 some false) r6
noncomputable def mallongeref09_RightCity_l1_s (a1:GCity) (p3:Int):Option ((Int) ⊕ (Unit ⊕ Unit)) :=
 if decide (p3 < (a1.Feasts.length:Int)) = true then
  (at? a1.Feasts p3).bind fun (x4:Int) =>
  (mallongeref09_Within (IntKind.wrap .i64 (x4.tdiv 100)) 1 12).bind fun (r5:Bool) =>
  if (!(r5)) = true then
   some (.inr (.inr (())))
  else
   (at? a1.Feasts p3).bind fun (x6:Int) =>
   (mallongeref09_Within (x6.tmod 100) 1 31).bind fun (r7:Bool) =>
   if (!(r7)) = true then
    some (.inr (.inr (())))
   else
    some (.inl (IntKind.wrap .i64 (p3 + 1)))
 else
  some (.inr (.inl ()))
noncomputable def mallongeref09_RightCity_l1 (a1:GCity) (p3:Int):Option (Unit ⊕ Unit) :=
 Iter (fun (w:Int)=>mallongeref09_RightCity_l1_s a1 w) p3
noncomputable def mallongeref09_RightCity (a0:GRealm) (a1:GCity):Option (Bool) :=
 (mallongeref09_Within a1.Order 0 (IntKind.wrap .i64 ((a0.Orders.length:Int) - 1))).bind fun (r1:Bool) =>
 if (!(r1)) = true then
  some false
 else
  (mallongeref09_Within a1.Currency 0 (IntKind.wrap .i64 ((a0.Currencies.length:Int) - 1))).bind fun (r2:Bool) =>
  if (!(r2)) = true then
   some false
  else
   if decide ((a1.Feasts.length:Int) > 60) = true then
    some false
   else
    if decide ((a1.Shut.length:Int) > 200) = true then
     some false
    else
     (mallongeref09_RightCity_l1 a1 0).bind fun (r8:Unit ⊕ Unit)=>Sum.elim (fun z9 =>
     (mallongeref09_Rising a1.Rest 0 6).bind fun (r11:Bool) =>
      if r11 = true then
       (mallongeref09_Rising a1.Feasts 0 2000).bind fun (r12:Bool) =>
       if r12 = true then
        (mallongeref09_Rising a1.Shut 0 100000).bind fun (r13:Bool) =>
        some r13
       else
        some false
      else
       some false) (fun z10 =>
     some false) r8
noncomputable def mallongeref09_cities_l1_s (a0:GRealm) (p1:Int):Option ((Int) ⊕ (Unit ⊕ Int)) :=
 if decide (p1 < (a0.Currencies.length:Int)) = true then
  (mallongeref09_named a0.Currencies p1).bind fun (r2:Int) =>
  if (r2 != 0) = true then
   some (.inr (.inr (r2)))
  else
   some (.inl (IntKind.wrap .i64 (p1 + 1)))
 else
  some (.inr (.inl ()))
noncomputable def mallongeref09_cities_l1 (a0:GRealm) (p1:Int):Option (Unit ⊕ Int) :=
 Iter (fun (w:Int)=>mallongeref09_cities_l1_s a0 w) p1
noncomputable def mallongeref09_cities_l2_s (a0:GRealm) (p7:Int) (p8:List ByteArray):Option ((Int × (List ByteArray)) ⊕ (Unit ⊕ Int)) :=
 if decide (p7 < (a0.Cities.length:Int)) = true then
  (at? a0.Cities p7).bind fun (x9:GCity) =>
  if (p8.length + 1) * 16 ≤ 140737488355328 then
   (mallongeref09_named (p8 ++ [x9.Name]) p7).bind fun (r10:Int) =>
   if (r10 != 0) = true then
    some (.inr (.inr (r10)))
   else
    (at? a0.Cities p7).bind fun (x11:GCity) =>
    (mallongeref09_RightCity a0 x11).bind fun (r12:Bool) =>
    if (!(r12)) = true then
     some (.inr (.inr (1)))
    else
     some (.inl (IntKind.wrap .i64 (p7 + 1),p8 ++ [x9.Name]))
  else none
 else
  some (.inr (.inl ()))
noncomputable def mallongeref09_cities_l2 (a0:GRealm) (p7:Int) (p8:List ByteArray):Option (Unit ⊕ Int) :=
 Iter (fun (w:Int × (List ByteArray))=>mallongeref09_cities_l2_s a0 w.1 w.2) (p7,p8)
noncomputable def mallongeref09_cities (a0:GRealm):Option (Int) :=
 if decide ((a0.Currencies.length:Int) > 8) = true then
  some 6
 else
  (mallongeref09_cities_l1 a0 0).bind fun (r4:Unit ⊕ Int)=>Sum.elim (fun z5 =>
  if decide ((a0.Cities.length:Int) > 40) = true then
    some 6
   else
    (mallongeref09_cities_l2 a0 0 []).bind fun (r14:Unit ⊕ Int)=>Sum.elim (fun z15 =>
    some 0) (fun z16 =>
    some z16) r14) (fun z6 =>
  some z6) r4
noncomputable def mallongeref09_firms_l1_s (a0:GRealm) (p1:Int):Option ((Int) ⊕ (Unit ⊕ Unit)) :=
 if decide (p1 < (a0.Groups.length:Int)) = true then
  (at? a0.Groups p1).bind fun (x2:GGroup) =>
  (mallongeref09_Within x2.Grade 0 9).bind fun (r3:Bool) =>
  if (!(r3)) = true then
   some (.inr (.inr (())))
  else
   some (.inl (IntKind.wrap .i64 (p1 + 1)))
 else
  some (.inr (.inl ()))
noncomputable def mallongeref09_firms_l1 (a0:GRealm) (p1:Int):Option (Unit ⊕ Unit) :=
 Iter (fun (w:Int)=>mallongeref09_firms_l1_s a0 w) p1
noncomputable def mallongeref09_firms_l2_s (a0:GRealm) (p7:Int) (p8:List ByteArray):Option ((Int × (List ByteArray)) ⊕ (Unit ⊕ Int)) :=
 if decide (p7 < (a0.Firms.length:Int)) = true then
  (at? a0.Firms p7).bind fun (x9:GFirm) =>
  if (p8.length + 1) * 16 ≤ 140737488355328 then
   (mallongeref09_named (p8 ++ [x9.Name]) p7).bind fun (r10:Int) =>
   if (r10 != 0) = true then
    some (.inr (.inr (r10)))
   else
    (at? a0.Firms p7).bind fun (x11:GFirm) =>
    (mallongeref09_Within x11.City 0 (IntKind.wrap .i64 ((a0.Cities.length:Int) - 1))).bind fun (r12:Bool) =>
    if (!(r12)) = true then
     some (.inr (.inr (1)))
    else
     (at? a0.Firms p7).bind fun (x13:GFirm) =>
     (mallongeref09_Within x13.Group 0 (IntKind.wrap .i64 ((a0.Groups.length:Int) - 1))).bind fun (r14:Bool) =>
     if (!(r14)) = true then
      some (.inr (.inr (1)))
     else
      some (.inl (IntKind.wrap .i64 (p7 + 1),p8 ++ [x9.Name]))
  else none
 else
  some (.inr (.inl ()))
noncomputable def mallongeref09_firms_l2 (a0:GRealm) (p7:Int) (p8:List ByteArray):Option (Unit ⊕ Int) :=
 Iter (fun (w:Int × (List ByteArray))=>mallongeref09_firms_l2_s a0 w.1 w.2) (p7,p8)
noncomputable def mallongeref09_firms (a0:GRealm):Option (Int) :=
 if decide ((a0.Groups.length:Int) > 20) = true then
  some 6
 else
  (mallongeref09_firms_l1 a0 0).bind fun (r4:Unit ⊕ Unit)=>Sum.elim (fun z5 =>
  if decide ((a0.Firms.length:Int) > 200) = true then
    some 6
   else
    (mallongeref09_firms_l2 a0 0 []).bind fun (r16:Unit ⊕ Int)=>Sum.elim (fun z17 =>
    some 0) (fun z18 =>
    some z18) r16) (fun z6 =>
  some 1) r4
noncomputable def mallongeref09_RightOrder_l1_s (a0:GOrder) (p1:Int):Option ((Int) ⊕ (Unit ⊕ Unit)) :=
 if decide (p1 < (a0.Choices.length:Int)) = true then
  (at? a0.Choices p1).bind fun (x2:GChoice) =>
  (mallongeref09_Within x2.Ask 0 21).bind fun (r3:Bool) =>
  if (!(r3)) = true then
   some (.inr (.inr (())))
  else
   (at? a0.Choices p1).bind fun (x4:GChoice) =>
   (mallongeref09_Within x4.By 0 4).bind fun (r5:Bool) =>
   if (!(r5)) = true then
    some (.inr (.inr (())))
   else
    if decide (p1 > 0) = true then
     (at? a0.Choices (IntKind.wrap .i64 (p1 - 1))).bind fun (x6:GChoice) =>
     (at? a0.Choices p1).bind fun (x7:GChoice) =>
     if decide (x6.Ask ≥ x7.Ask) = true then
      some (.inr (.inr (())))
     else
      some (.inl (IntKind.wrap .i64 (p1 + 1)))
    else
     some (.inl (IntKind.wrap .i64 (p1 + 1)))
 else
  some (.inr (.inl ()))
noncomputable def mallongeref09_RightOrder_l1 (a0:GOrder) (p1:Int):Option (Unit ⊕ Unit) :=
 Iter (fun (w:Int)=>mallongeref09_RightOrder_l1_s a0 w) p1
noncomputable def mallongeref09_RightOrder_l2_s (a0:GOrder) (p11:Int):Option ((Int) ⊕ (Unit ⊕ Unit)) :=
 if decide (p11 < (a0.Rules.length:Int)) = true then
  (at? a0.Rules p11).bind fun (x12:GRule) =>
  (mallongeref09_Within x12.Ask 0 21).bind fun (r13:Bool) =>
  if (!(r13)) = true then
   some (.inr (.inr (())))
  else
   if decide (p11 > 0) = true then
    (at? a0.Rules (IntKind.wrap .i64 (p11 - 1))).bind fun (x14:GRule) =>
    (at? a0.Rules p11).bind fun (x15:GRule) =>
    if decide (x14.Ask ≥ x15.Ask) = true then
     some (.inr (.inr (())))
    else
     some (.inl (IntKind.wrap .i64 (p11 + 1)))
   else
    some (.inl (IntKind.wrap .i64 (p11 + 1)))
 else
  some (.inr (.inl ()))
noncomputable def mallongeref09_RightOrder_l2 (a0:GOrder) (p11:Int):Option (Unit ⊕ Unit) :=
 Iter (fun (w:Int)=>mallongeref09_RightOrder_l2_s a0 w) p11
noncomputable def mallongeref09_RightOrder (a0:GOrder):Option (Bool) :=
 (mallongeref09_RightOrder_l1 a0 0).bind fun (r8:Unit ⊕ Unit)=>Sum.elim (fun z9 =>
 (mallongeref09_RightOrder_l2 a0 0).bind fun (r16:Unit ⊕ Unit)=>Sum.elim (fun z17 =>
  some true) (fun z18 =>
  some false) r16) (fun z10 =>
 some false) r8
noncomputable def mallongeref09_orders_l1_s (a0:GRealm) (p1:Int) (p2:List ByteArray):Option ((Int × (List ByteArray)) ⊕ (Unit ⊕ Int)) :=
 if decide (p1 < (a0.Orders.length:Int)) = true then
  (at? a0.Orders p1).bind fun (x3:GOrder) =>
  if (p2.length + 1) * 16 ≤ 140737488355328 then
   (mallongeref09_named (p2 ++ [x3.Name]) p1).bind fun (r4:Int) =>
   if (r4 != 0) = true then
    some (.inr (.inr (r4)))
   else
    (at? a0.Orders p1).bind fun (x5:GOrder) =>
    (mallongeref09_RightOrder x5).bind fun (r6:Bool) =>
    if (!(r6)) = true then
     some (.inr (.inr (1)))
    else
     some (.inl (IntKind.wrap .i64 (p1 + 1),p2 ++ [x3.Name]))
  else none
 else
  some (.inr (.inl ()))
noncomputable def mallongeref09_orders_l1 (a0:GRealm) (p1:Int) (p2:List ByteArray):Option (Unit ⊕ Int) :=
 Iter (fun (w:Int × (List ByteArray))=>mallongeref09_orders_l1_s a0 w.1 w.2) (p1,p2)
noncomputable def mallongeref09_orders (a0:GRealm):Option (Int) :=
 if decide ((a0.Orders.length:Int) > 20) = true then
  some 6
 else
  (mallongeref09_orders_l1 a0 0 []).bind fun (r8:Unit ⊕ Int)=>Sum.elim (fun z9 =>
  some 0) (fun z10 =>
  some z10) r8
noncomputable def mallongeref09_usances_l1_s (a0:GRealm) (p1:Int) (x2:GUsance) (p6:Int):Option ((Int) ⊕ (Unit ⊕ Unit)) :=
 if decide (p6 < p1) = true then
  (at? a0.Usances p6).bind fun (x7:GUsance) =>
  if (x7.From == x2.From) = true then
   (at? a0.Usances p6).bind fun (x8:GUsance) =>
   if (x8.To == x2.To) = true then
    some (.inr (.inr (())))
   else
    some (.inl (IntKind.wrap .i64 (p6 + 1)))
  else
   some (.inl (IntKind.wrap .i64 (p6 + 1)))
 else
  some (.inr (.inl ()))
noncomputable def mallongeref09_usances_l1 (a0:GRealm) (p1:Int) (x2:GUsance) (p6:Int):Option (Unit ⊕ Unit) :=
 Iter (fun (w:Int)=>mallongeref09_usances_l1_s a0 p1 x2 w) p6
noncomputable def mallongeref09_usances_l2_s (a0:GRealm) (p1:Int):Option ((Int) ⊕ (Unit ⊕ Int)) :=
 if decide (p1 < (a0.Usances.length:Int)) = true then
  (at? a0.Usances p1).bind fun (x2:GUsance) =>
  (mallongeref09_Within x2.From 0 (IntKind.wrap .i64 ((a0.Cities.length:Int) - 1))).bind fun (r3:Bool) =>
  if (!(r3)) = true then
   some (.inr (.inr (1)))
  else
   (mallongeref09_Within x2.To 0 (IntKind.wrap .i64 ((a0.Cities.length:Int) - 1))).bind fun (r4:Bool) =>
   if (!(r4)) = true then
    some (.inr (.inr (1)))
   else
    (mallongeref09_Within x2.Days 1 20000).bind fun (r5:Bool) =>
    if (!(r5)) = true then
     some (.inr (.inr (1)))
    else
     (mallongeref09_usances_l1 a0 p1 x2 0).bind fun (r9:Unit ⊕ Unit)=>Sum.elim (fun z10 =>
     some (.inl (IntKind.wrap .i64 (p1 + 1)))) (fun z11 =>
     some (.inr (.inr (5)))) r9
 else
  some (.inr (.inl ()))
noncomputable def mallongeref09_usances_l2 (a0:GRealm) (p1:Int):Option (Unit ⊕ Int) :=
 Iter (fun (w:Int)=>mallongeref09_usances_l2_s a0 w) p1
noncomputable def mallongeref09_usances (a0:GRealm):Option (Int) :=
 if decide ((a0.Usances.length:Int) > 100) = true then
  some 6
 else
  (mallongeref09_usances_l2 a0 0).bind fun (r13:Unit ⊕ Int)=>Sum.elim (fun z14 =>
  some 0) (fun z15 =>
  some z15) r13
noncomputable def mallongeref09_others_l1_s (a0:GRealm) (p1:Int):Option ((Int) ⊕ (Unit ⊕ Unit)) :=
 if decide (p1 < (a0.Rates.length:Int)) = true then
  (at? a0.Rates p1).bind fun (x2:GRate) =>
  (mallongeref09_Within x2.From 0 (IntKind.wrap .i64 ((a0.Currencies.length:Int) - 1))).bind fun (r3:Bool) =>
  if (!(r3)) = true then
   some (.inr (.inr (())))
  else
   (mallongeref09_Within x2.To 0 (IntKind.wrap .i64 ((a0.Currencies.length:Int) - 1))).bind fun (r4:Bool) =>
   if (!(r4)) = true then
    some (.inr (.inr (())))
   else
    if (x2.From == x2.To) = true then
     some (.inr (.inr (())))
    else
     (mallongeref09_Within x2.Num 1 1073741824).bind fun (r5:Bool) =>
     if (!(r5)) = true then
      some (.inr (.inr (())))
     else
      (mallongeref09_Within x2.Den 1 1073741824).bind fun (r6:Bool) =>
      if (!(r6)) = true then
       some (.inr (.inr (())))
      else
       (mallongeref09_Within x2.Since 0 100000).bind fun (r7:Bool) =>
       if (!(r7)) = true then
        some (.inr (.inr (())))
       else
        some (.inl (IntKind.wrap .i64 (p1 + 1)))
 else
  some (.inr (.inl ()))
noncomputable def mallongeref09_others_l1 (a0:GRealm) (p1:Int):Option (Unit ⊕ Unit) :=
 Iter (fun (w:Int)=>mallongeref09_others_l1_s a0 w) p1
noncomputable def mallongeref09_others_l2_s (a0:GRealm) (p11:Int):Option ((Int) ⊕ (Unit ⊕ Unit)) :=
 if decide (p11 < (a0.Halts.length:Int)) = true then
  (at? a0.Halts p11).bind fun (x12:GHalt) =>
  (mallongeref09_Within x12.Order 0 (IntKind.wrap .i64 ((a0.Orders.length:Int) - 1))).bind fun (r13:Bool) =>
  if (!(r13)) = true then
   some (.inr (.inr (())))
  else
   (mallongeref09_Within x12.From 0 x12.To).bind fun (r14:Bool) =>
   if (!(r14)) = true then
    some (.inr (.inr (())))
   else
    if decide (x12.To > 100000) = true then
     some (.inr (.inr (())))
    else
     some (.inl (IntKind.wrap .i64 (p11 + 1)))
 else
  some (.inr (.inl ()))
noncomputable def mallongeref09_others_l2 (a0:GRealm) (p11:Int):Option (Unit ⊕ Unit) :=
 Iter (fun (w:Int)=>mallongeref09_others_l2_s a0 w) p11
noncomputable def mallongeref09_others (a0:GRealm):Option (Int) :=
 if decide ((a0.Rates.length:Int) > 100) = true then
  some 6
 else
  (mallongeref09_others_l1 a0 0).bind fun (r8:Unit ⊕ Unit)=>Sum.elim (fun z9 =>
  if decide ((a0.Halts.length:Int) > 20) = true then
    some 6
   else
    (mallongeref09_others_l2 a0 0).bind fun (r15:Unit ⊕ Unit)=>Sum.elim (fun z16 =>
    some 0) (fun z17 =>
    some 1) r15) (fun z10 =>
  some 1) r8
noncomputable def mallongeref09_Check_j1 (a0:GRealm) (p7:Int):Option (Int) :=
 if (p7 == 0) = true then
  (mallongeref09_others a0).bind fun (r8:Int) =>
  some (r8)
 else
  some (p7)
noncomputable def mallongeref09_Check_j2 (a0:GRealm) (p5:Int):Option (Int) :=
 if (p5 == 0) = true then
  (mallongeref09_usances a0).bind fun (r6:Int) =>
  (mallongeref09_Check_j1 a0 r6).bind fun (r10:Int) =>
  some (r10)
 else
  (mallongeref09_Check_j1 a0 p5).bind fun (r11:Int) =>
  some (r11)
noncomputable def mallongeref09_Check_j3 (a0:GRealm) (p3:Int):Option (Int) :=
 if (p3 == 0) = true then
  (mallongeref09_orders a0).bind fun (r4:Int) =>
  (mallongeref09_Check_j2 a0 r4).bind fun (r13:Int) =>
  some (r13)
 else
  (mallongeref09_Check_j2 a0 p3).bind fun (r14:Int) =>
  some (r14)
noncomputable def mallongeref09_Check (a0:GRealm):Option (Int) :=
 (mallongeref09_cities a0).bind fun (r1:Int) =>
 if (r1 == 0) = true then
  (mallongeref09_firms a0).bind fun (r2:Int) =>
  (mallongeref09_Check_j3 a0 r2).bind fun (r16:Int) =>
  some r16
 else
  (mallongeref09_Check_j3 a0 r1).bind fun (r17:Int) =>
  some r17
noncomputable def mallongeref11_city (a0:GRealm) (a1:Int):Option (Bool) :=
 if decide (a1 ≥ 0) = true then
  some (decide (a1 < (a0.Cities.length:Int)))
 else
  some false
noncomputable def mallongeref04_Valid (a0:Int):Option (Bool) :=
 if decide (a0 ≥ 0) = true then
  some (decide (a0 ≤ 100000))
 else
  some false
noncomputable def mallongeref11_Sights (a0:GTenor):Option (Bool) :=
 if (a0.Kind == 0) = true then
  some true
 else
  some (a0.Kind == 1)
noncomputable def mallongeref09_Usance_l1_s (a0:GRealm) (a1:Int) (a2:Int) (p1:Int):Option ((Int) ⊕ (Unit ⊕ Int)) :=
 if decide (p1 < (a0.Usances.length:Int)) = true then
  (at? a0.Usances p1).bind fun (x2:GUsance) =>
  if (x2.From == a1) = true then
   (at? a0.Usances p1).bind fun (x3:GUsance) =>
   if (x3.To == a2) = true then
    (at? a0.Usances p1).bind fun (x4:GUsance) =>
    some (.inr (.inr (x4.Days)))
   else
    some (.inl (IntKind.wrap .i64 (p1 + 1)))
  else
   some (.inl (IntKind.wrap .i64 (p1 + 1)))
 else
  some (.inr (.inl ()))
noncomputable def mallongeref09_Usance_l1 (a0:GRealm) (a1:Int) (a2:Int) (p1:Int):Option (Unit ⊕ Int) :=
 Iter (fun (w:Int)=>mallongeref09_Usance_l1_s a0 a1 a2 w) p1
noncomputable def mallongeref09_Usance (a0:GRealm) (a1:Int) (a2:Int):Option (Int × Int) :=
 (mallongeref09_Usance_l1 a0 a1 a2 0).bind fun (r6:Unit ⊕ Int)=>Sum.elim (fun z7 =>
 some (0,4)) (fun z8 =>
 some (z8,0)) r6
noncomputable def mallongeref04_AddMonths (a0:Int) (a1:Int):Option (Int × Int):=some (Cal.addV a0 a1,Cal.addE a0 a1)
noncomputable def mallongeref11_Base_j1 (a1:GBill) (p5:Int) (p6:Int):Option (Int × Int) :=
 if (a1.Tenor.Unit == 1) = true then
  (mallongeref04_AddMonths p6 a1.Tenor.N).bind fun (r7:Int × Int) =>
  some ((r7.1,r7.2))
 else
  some ((IntKind.wrap .i64 (p6 + a1.Tenor.N),p5))
noncomputable def mallongeref11_Base_j2 (a1:GBill) (a2:Int) (p5:Int):Option ((Int × Int) ⊕ Unit) :=
 if decide (a1.Tenor.N < 0) = true then
  some (.inr (()))
 else
  if decide (a1.Tenor.N > 20000) = true then
   some (.inr (()))
  else
   if (a1.Tenor.Kind == 1) = true then
    (mallongeref11_Base_j1 a1 p5 a2).bind fun (r10:Int × Int) =>
    some (.inl (r10.1,r10.2))
   else
    (mallongeref11_Base_j1 a1 p5 a1.Day).bind fun (r11:Int × Int) =>
    some (.inl (r11.1,r11.2))
noncomputable def mallongeref11_Base_j3 (p20:Int) (p21:Int):Option (Int) :=
 if (p21 != 0) = true then
  some ((-1))
 else
  (mallongeref04_Valid p20).bind fun (r22:Bool) =>
  if (!(r22)) = true then
   some ((-1))
  else
   some (p20)
noncomputable def mallongeref11_Base_j4 (a1:GBill) (a2:Int) (p4:Int) (p5:Int):Option (Int) :=
 if (a1.Tenor.Kind == 1) = true then
  (mallongeref11_Base_j2 a1 a2 p5).bind fun (r14:(Int × Int) ⊕ Unit)=>Sum.elim (fun z15 =>
  (mallongeref11_Base_j3 z15.1 z15.2).bind fun (r24:Int) =>
   some (r24)) (fun z16 =>
  some ((-1))) r14
 else
  if (a1.Tenor.Kind == 2) = true then
   (mallongeref11_Base_j2 a1 a2 p5).bind fun (r17:(Int × Int) ⊕ Unit)=>Sum.elim (fun z18 =>
   (mallongeref11_Base_j3 z18.1 z18.2).bind fun (r25:Int) =>
    some (r25)) (fun z19 =>
   some ((-1))) r17
  else
   (mallongeref11_Base_j3 p4 p5).bind fun (r26:Int) =>
   some (r26)
noncomputable def mallongeref11_Base_j5 (a0:GRealm) (a1:GBill) (a2:Int) (p2:Int):Option (Int) :=
 if (a1.Tenor.Kind == 4) = true then
  (mallongeref09_Usance a0 a1.City a1.Pay).bind fun (r3:Int × Int) =>
  (mallongeref11_Base_j4 a1 a2 (IntKind.wrap .i64 (r3.1 + a1.Day)) r3.2).bind fun (r28:Int) =>
  some (r28)
 else
  (mallongeref11_Base_j4 a1 a2 p2 0).bind fun (r29:Int) =>
  some (r29)
noncomputable def mallongeref11_Base_j6 (a0:GRealm) (a1:GBill) (a2:Int) (p1:Int):Option (Int) :=
 if (a1.Tenor.Kind == 3) = true then
  (mallongeref11_Base_j5 a0 a1 a2 a1.Tenor.N).bind fun (r31:Int) =>
  some (r31)
 else
  (mallongeref11_Base_j5 a0 a1 a2 p1).bind fun (r32:Int) =>
  some (r32)
noncomputable def mallongeref11_Base (a0:GRealm) (a1:GBill) (a2:Int):Option (Int) :=
 if (a1.Tenor.Kind == 0) = true then
  (mallongeref11_Base_j6 a0 a1 a2 a2).bind fun (r34:Int) =>
  some r34
 else
  (mallongeref11_Base_j6 a0 a1 a2 0).bind fun (r35:Int) =>
  some r35
noncomputable def mallongeref09_OrderAt (a0:GRealm) (a1:Int):Option (Int) :=
 (mallongeref09_Within a1 0 (IntKind.wrap .i64 ((a0.Cities.length:Int) - 1))).bind fun (r1:Bool) =>
 if r1 = true then
  (at? a0.Cities a1).bind fun (x2:GCity) =>
  some x2.Order
 else
  some (-1)
noncomputable def mallongeref04_Next (a0:GCity) (a1:Int):Option (Int × Int):=(gTown a0).map fun t=>(Cal.got (Cal.nx1 t a1),Cal.gotE (Cal.nx1 t a1))
noncomputable def mallongeref11_settle_l1_s (a0:GRealm) (a1:Int) (p2:Int) (r1:Int) (p3:Int) (p4:Int):Option ((Int × Int) ⊕ (Int)) :=
 if decide (p4 < (a0.Halts.length:Int)) = true then
  (at? a0.Halts p4).bind fun (x5:GHalt) =>
  if (x5.Order == r1) = true then
   (at? a0.Halts p4).bind fun (x6:GHalt) =>
   if decide (x6.From ≤ p2) = true then
    (at? a0.Halts p4).bind fun (x7:GHalt) =>
    if decide (p2 ≤ x7.To) = true then
     (at? a0.Halts p4).bind fun (x8:GHalt) =>
     some (.inl ((if (IntKind.wrap .i64 (x8.To + 1)) > p3 then IntKind.wrap .i64 (x8.To + 1) else p3),IntKind.wrap .i64 (p4 + 1)))
    else
     some (.inl (p3,IntKind.wrap .i64 (p4 + 1)))
   else
    some (.inl (p3,IntKind.wrap .i64 (p4 + 1)))
  else
   some (.inl (p3,IntKind.wrap .i64 (p4 + 1)))
 else
  some (.inr (p3))
noncomputable def mallongeref11_settle_l1 (a0:GRealm) (a1:Int) (p2:Int) (r1:Int) (p3:Int) (p4:Int):Option (Int) :=
 Iter (fun (w:Int × Int)=>mallongeref11_settle_l1_s a0 a1 p2 r1 w.1 w.2) (p3,p4)
noncomputable def mallongeref11_settle_l2_s (a0:GRealm) (a1:Int) (r1:Int) (p2:Int):Option ((Int) ⊕ (Unit ⊕ (Int × Int))) :=
 if decide (p2 ≤ 100000) = true then
  (mallongeref11_settle_l1 a0 a1 p2 r1 p2 0).bind fun (r10:Int) =>
  if (r10 == p2) = true then
   (at? a0.Cities a1).bind fun (x11:GCity) =>
   (mallongeref04_Next x11 p2).bind fun (r12:Int × Int) =>
   if (r12.2 != 0) = true then
    some (.inr (.inr ((0,r12.2))))
   else
    if (r12.1 == p2) = true then
     some (.inr (.inr ((p2,0))))
    else
     some (.inl r12.1)
  else
   if (r10 == p2) = true then
    some (.inr (.inr ((p2,0))))
   else
    some (.inl r10)
 else
  some (.inr (.inl ()))
noncomputable def mallongeref11_settle_l2 (a0:GRealm) (a1:Int) (r1:Int) (p2:Int):Option (Unit ⊕ (Int × Int)) :=
 Iter (fun (w:Int)=>mallongeref11_settle_l2_s a0 a1 r1 w) p2
noncomputable def mallongeref11_settle (a0:GRealm) (a1:Int) (a2:Int):Option (Int × Int) :=
 (mallongeref09_OrderAt a0 a1).bind fun (r1:Int) =>
 (mallongeref11_settle_l2 a0 a1 r1 a2).bind fun (r15:Unit ⊕ (Int × Int))=>Sum.elim (fun z16 =>
 some (0,3)) (fun z17 =>
 some (z17.1,z17.2)) r15
noncomputable def mallongeref11_Due_j1 (a0:GRealm) (a1:GBill) (a2:Int) (a3:Int):Option (Int × Int) :=
 (mallongeref11_Base a0 a1 a2).bind fun (r8:Int) =>
 if decide (r8 < 0) = true then
  some ((0,3))
 else
  if decide ((IntKind.wrap .i64 (r8 + a3)) > 100000) = true then
   some ((0,3))
  else
   (mallongeref11_settle a0 a1.Pay (IntKind.wrap .i64 (r8 + a3))).bind fun (r9:Int × Int) =>
   some ((r9.1,r9.2))
noncomputable def mallongeref11_Due_j2 (a0:GRealm) (a1:GBill) (a2:Int) (a3:Int):Option (Int × Int) :=
 if (a1.Tenor.Kind == 4) = true then
  (mallongeref09_Usance a0 a1.City a1.Pay).bind fun (r7:Int × Int) =>
  if (r7.2 != 0) = true then
   some ((0,4))
  else
   (mallongeref11_Due_j1 a0 a1 a2 a3).bind fun (r12:Int × Int) =>
   some ((r12.1,r12.2))
 else
  (mallongeref11_Due_j1 a0 a1 a2 a3).bind fun (r13:Int × Int) =>
  some ((r13.1,r13.2))
noncomputable def mallongeref11_Due_j3 (a0:GRealm) (a1:GBill) (a2:Int) (a3:Int):Option (Int × Int) :=
 (mallongeref11_Sights a1.Tenor).bind fun (r6:Bool) =>
 if r6 = true then
  if (a2 == (-1)) = true then
   some ((0,4))
  else
   (mallongeref11_Due_j2 a0 a1 a2 a3).bind fun (r16:Int × Int) =>
   some ((r16.1,r16.2))
 else
  (mallongeref11_Due_j2 a0 a1 a2 a3).bind fun (r17:Int × Int) =>
  some ((r17.1,r17.2))
noncomputable def mallongeref11_Due (a0:GRealm) (a1:GBill) (a2:Int) (a3:Int):Option (Int × Int) :=
 (mallongeref09_Check a0).bind fun (r1:Int) =>
 if (r1 != 0) = true then
  some (0,1)
 else
  (mallongeref11_city a0 a1.City).bind fun (r2:Bool) =>
  if (!(r2)) = true then
   some (0,1)
  else
   (mallongeref11_city a0 a1.Pay).bind fun (r3:Bool) =>
   if (!(r3)) = true then
    some (0,1)
   else
    (mallongeref04_Valid a1.Day).bind fun (r4:Bool) =>
    if (!(r4)) = true then
     some (0,1)
    else
     if decide (a1.Tenor.Kind < 0) = true then
      some (0,1)
     else
      if decide (a1.Tenor.Kind ≥ 5) = true then
       some (0,1)
      else
       if decide (a1.Tenor.Unit < 0) = true then
        some (0,1)
       else
        if decide (a1.Tenor.Unit ≥ 2) = true then
         some (0,1)
        else
         if (a2 != (-1)) = true then
          (mallongeref04_Valid a2).bind fun (r5:Bool) =>
          if (!(r5)) = true then
           some (0,1)
          else
           if decide (a3 < 0) = true then
            some (0,1)
           else
            if decide (a3 > 20000) = true then
             some (0,1)
            else
             (mallongeref11_Due_j3 a0 a1 a2 a3).bind fun (r20:Int × Int) =>
             some (r20.1,r20.2)
         else
          if decide (a3 < 0) = true then
           some (0,1)
          else
           if decide (a3 > 20000) = true then
            some (0,1)
           else
            (mallongeref11_Due_j3 a0 a1 a2 a3).bind fun (r21:Int × Int) =>
            some (r21.1,r21.2)
noncomputable def mallongeref11_Settle (a0:GRealm) (a1:Int) (a2:Int):Option (Int × Int) :=
 (mallongeref09_Check a0).bind fun (r1:Int) =>
 if (r1 != 0) = true then
  some (0,1)
 else
  (mallongeref11_city a0 a1).bind fun (r2:Bool) =>
  if (!(r2)) = true then
   some (0,1)
  else
   (mallongeref04_Valid a2).bind fun (r3:Bool) =>
   if (!(r3)) = true then
    some (0,1)
   else
    (mallongeref11_settle a0 a1 a2).bind fun (r4:Int × Int) =>
    some (r4.1,r4.2)
noncomputable def mallongelaw11_TenorTells (a0:GRealm) (a1:GBill) (a2:Int) (a3:Int) (a4:Int) (a5:Int):Option (Bool) :=
 (mallongelaw11_sane).bind fun (r1:Bool) =>
 (mallongeref09_Few a0).bind fun (r2:Bool) =>
 if (!(r2)) = true then
  some r1
 else
  (mtenor_Due a0 a1 a2 a3).bind fun (r3:Int × Int) =>
  (mallongeref11_Due a0 a1 a2 a3).bind fun (r4:Int × Int) =>
  (mtenor_Settle a0 a4 a5).bind fun (r5:Int × Int) =>
  (mallongeref11_Settle a0 a4 a5).bind fun (r6:Int × Int) =>
  if r1 = true then
   if (r3.1 == r4.1) = true then
    if (r3.2 == r4.2) = true then
     if (r5.1 == r6.1) = true then
      if (r5.2 == r6.2) = true then
       (mtenor_Sights a1.Tenor).bind fun (r7:Bool) =>
       (mallongeref11_Sights a1.Tenor).bind fun (r8:Bool) =>
       some (r7 == r8)
      else
       some false
     else
      some false
    else
     some false
   else
    some false
  else
   some false
noncomputable def mallongelaw11_TenorHalts_l1_s (a0:GRealm) (a1:GBill) (a2:Int) (a3:Int) (a5:Int) (r1:Bool) (r4:Int × Int) (x9:GCity) (p10:Int) (p11:List Int):Option ((Int × (List Int)) ⊕ ((List Int))) :=
 if decide (p10 < (x9.Shut.length:Int)) = true then
  (at? x9.Shut p10).bind fun (x12:Int) =>
  if decide (x12 < a5) = true then
   (at? x9.Shut p10).bind fun (x13:Int) =>
   if (p11.length + 1) * 8 ≤ 140737488355328 then
    some (.inl (IntKind.wrap .i64 (p10 + 1),p11 ++ [x13]))
   else none
  else
   some (.inl (IntKind.wrap .i64 (p10 + 1),p11))
 else
  some (.inr (p11))
noncomputable def mallongelaw11_TenorHalts_l1 (a0:GRealm) (a1:GBill) (a2:Int) (a3:Int) (a5:Int) (r1:Bool) (r4:Int × Int) (x9:GCity) (p10:Int) (p11:List Int):Option ((List Int)) :=
 Iter (fun (w:Int × (List Int))=>mallongelaw11_TenorHalts_l1_s a0 a1 a2 a3 a5 r1 r4 x9 w.1 w.2) (p10,p11)
noncomputable def mallongelaw11_TenorHalts_l2_s (a0:GRealm) (a1:GBill) (a2:Int) (a3:Int) (a5:Int) (r1:Bool) (r4:Int × Int) (x9:GCity) (p16:Int) (p17:List Int):Option ((Int × (List Int)) ⊕ ((List Int))) :=
 if decide (p16 < (x9.Shut.length:Int)) = true then
  (at? x9.Shut p16).bind fun (x18:Int) =>
  if decide (x18 > a5) = true then
   (at? x9.Shut p16).bind fun (x19:Int) =>
   if (p17.length + 1) * 8 ≤ 140737488355328 then
    some (.inl (IntKind.wrap .i64 (p16 + 1),p17 ++ [x19]))
   else none
  else
   some (.inl (IntKind.wrap .i64 (p16 + 1),p17))
 else
  some (.inr (p17))
noncomputable def mallongelaw11_TenorHalts_l2 (a0:GRealm) (a1:GBill) (a2:Int) (a3:Int) (a5:Int) (r1:Bool) (r4:Int × Int) (x9:GCity) (p16:Int) (p17:List Int):Option ((List Int)) :=
 Iter (fun (w:Int × (List Int))=>mallongelaw11_TenorHalts_l2_s a0 a1 a2 a3 a5 r1 r4 x9 w.1 w.2) (p16,p17)
noncomputable def mallongelaw11_TenorHalts_j3 (a0:GRealm) (a1:GBill) (a2:Int) (a3:Int) (a5:Int) (r1:Bool) (r4:Int × Int):Option (Bool) :=
 if (0 + a0.Cities.length) * 104 ≤ 140737488355328 then
  if 0 ≤ a1.Pay ∧ a1.Pay.toNat < (([]:List GCity) ++ a0.Cities).length then
   ((([]:List GCity) ++ a0.Cities)[a1.Pay.toNat]?).bind fun (x9:GCity) =>
   (mallongelaw11_TenorHalts_l1 a0 a1 a2 a3 a5 r1 r4 x9 0 []).bind fun (r15:(List Int)) =>
   if (r15.length + 1) * 8 ≤ 140737488355328 then
    (mallongelaw11_TenorHalts_l2 a0 a1 a2 a3 a5 r1 r4 x9 0 (r15 ++ [a5])).bind fun (r21:(List Int)) =>
    if 0 ≤ a1.Pay ∧ a1.Pay.toNat < (([]:List GCity) ++ a0.Cities).length then
     ((([]:List GCity) ++ a0.Cities)[a1.Pay.toNat]?).bind fun (x22:GCity) =>
     (mtenor_Due (GRealm.mk a0.Currencies ((([]:List GCity) ++ a0.Cities).set a1.Pay.toNat (GCity.mk x9.Name x9.Order x9.Currency x9.Rest x9.Feasts r21)) a0.Groups a0.Firms a0.Orders a0.Usances a0.Rates a0.Halts) a1 a2 a3).bind fun (r23:Int × Int) =>
     (mrealm_Check (GRealm.mk a0.Currencies ((([]:List GCity) ++ a0.Cities).set a1.Pay.toNat (GCity.mk x9.Name x9.Order x9.Currency x9.Rest x9.Feasts r21)) a0.Groups a0.Firms a0.Orders a0.Usances a0.Rates a0.Halts)).bind fun (r24:Int) =>
     if (r24 != 0) = true then
      some (r1)
     else
      if (r4.2 != 0) = true then
       some (r1)
      else
       if r1 = true then
        if (r23.2 == 0) = true then
         if decide (r23.1 ≥ r4.1) = true then
          if (a5 == r4.1) = true then
           some (true)
          else
           if (r23.1 == r4.1) = true then
            some (true)
           else
            if (r23.2 == 3) = true then
             some (decide (a5 ≤ r4.1))
            else
             some (false)
         else
          if (r23.2 == 3) = true then
           some (decide (a5 ≤ r4.1))
          else
           some (false)
        else
         if (r23.2 == 3) = true then
          some (decide (a5 ≤ r4.1))
         else
          some (false)
       else
        some (false)
    else none
   else none
  else none
 else none
noncomputable def mallongelaw11_TenorHalts_j4 (a0:GRealm) (a1:GBill) (a2:Int) (a3:Int) (a4:GHalt) (a5:Int) (r1:Bool) (r4:Int × Int) (r5:Int × Int) (p7:Bool):Option (Bool) :=
 (mrealm_Check (GRealm.mk a0.Currencies a0.Cities a0.Groups a0.Firms a0.Orders a0.Usances a0.Rates ((([]:List GHalt) ++ a0.Halts) ++ [a4]))).bind fun (r8:Int) =>
 if (r8 == 0) = true then
  if (r4.2 == 0) = true then
   if (r5.2 == 0) = true then
    if decide (r5.1 < r4.1) = true then
     some (false)
    else
     if (!(p7)) = true then
      if (r5.2 != 0) = true then
       some (false)
      else
       if (r5.1 != r4.1) = true then
        some (false)
       else
        if (r5.2 != 0) = true then
         if (r5.2 != 3) = true then
          some (false)
         else
          (mallongelaw11_TenorHalts_j3 a0 a1 a2 a3 a5 r1 r4).bind fun (r26:Bool) =>
          some (r26)
        else
         (mallongelaw11_TenorHalts_j3 a0 a1 a2 a3 a5 r1 r4).bind fun (r27:Bool) =>
         some (r27)
     else
      if (r5.2 != 0) = true then
       if (r5.2 != 3) = true then
        some (false)
       else
        (mallongelaw11_TenorHalts_j3 a0 a1 a2 a3 a5 r1 r4).bind fun (r28:Bool) =>
        some (r28)
      else
       (mallongelaw11_TenorHalts_j3 a0 a1 a2 a3 a5 r1 r4).bind fun (r29:Bool) =>
       some (r29)
   else
    if (!(p7)) = true then
     if (r5.2 != 0) = true then
      some (false)
     else
      if (r5.1 != r4.1) = true then
       some (false)
      else
       if (r5.2 != 0) = true then
        if (r5.2 != 3) = true then
         some (false)
        else
         (mallongelaw11_TenorHalts_j3 a0 a1 a2 a3 a5 r1 r4).bind fun (r30:Bool) =>
         some (r30)
       else
        (mallongelaw11_TenorHalts_j3 a0 a1 a2 a3 a5 r1 r4).bind fun (r31:Bool) =>
        some (r31)
    else
     if (r5.2 != 0) = true then
      if (r5.2 != 3) = true then
       some (false)
      else
       (mallongelaw11_TenorHalts_j3 a0 a1 a2 a3 a5 r1 r4).bind fun (r32:Bool) =>
       some (r32)
     else
      (mallongelaw11_TenorHalts_j3 a0 a1 a2 a3 a5 r1 r4).bind fun (r33:Bool) =>
      some (r33)
  else
   (mallongelaw11_TenorHalts_j3 a0 a1 a2 a3 a5 r1 r4).bind fun (r34:Bool) =>
   some (r34)
 else
  (mallongelaw11_TenorHalts_j3 a0 a1 a2 a3 a5 r1 r4).bind fun (r35:Bool) =>
  some (r35)
noncomputable def mallongelaw11_TenorHalts (a0:GRealm) (a1:GBill) (a2:Int) (a3:Int) (a4:GHalt) (a5:Int):Option (Bool) :=
 (mallongelaw11_sane).bind fun (r1:Bool) =>
 (mallongeref09_Few a0).bind fun (r2:Bool) =>
 if (!(r2)) = true then
  some r1
 else
  (mrealm_Check a0).bind fun (r3:Int) =>
  if (r3 != 0) = true then
   some r1
  else
   if decide (a1.Pay < 0) = true then
    some r1
   else
    if decide (a1.Pay ≥ (a0.Cities.length:Int)) = true then
     some r1
    else
     (mtenor_Due a0 a1 a2 a3).bind fun (r4:Int × Int) =>
     if (0 + a0.Halts.length) * 24 ≤ 140737488355328 then
      if ((([]:List GHalt) ++ a0.Halts).length + 1) * 24 ≤ 140737488355328 then
       (mtenor_Due (GRealm.mk a0.Currencies a0.Cities a0.Groups a0.Firms a0.Orders a0.Usances a0.Rates ((([]:List GHalt) ++ a0.Halts) ++ [a4])) a1 a2 a3).bind fun (r5:Int × Int) =>
       (mrealm_OrderAt a0 a1.Pay).bind fun (r6:Int) =>
       if (a4.Order == r6) = true then
        if decide (a4.From ≤ r4.1) = true then
         (mallongelaw11_TenorHalts_j4 a0 a1 a2 a3 a4 a5 r1 r4 r5 (decide (r4.1 ≤ a4.To))).bind fun (r37:Bool) =>
         some r37
        else
         (mallongelaw11_TenorHalts_j4 a0 a1 a2 a3 a4 a5 r1 r4 r5 false).bind fun (r38:Bool) =>
         some r38
       else
        (mallongelaw11_TenorHalts_j4 a0 a1 a2 a3 a4 a5 r1 r4 r5 false).bind fun (r39:Bool) =>
        some r39
      else none
     else none
noncomputable def mallongelaw11_TenorKinds_j1 (a0:GRealm) (a1:GBill) (a2:Int) (a3:Int) (a4:Int) (r1:Bool) (r7:Int × Int):Option (Bool) :=
 (mtenor_Due a0 (GBill.mk a1.Drawer a1.Drawee a1.Payee a1.Sum a1.Currency (GTenor.mk 3 (IntKind.wrap .i64 (a1.Day + a2)) 0) a1.Day a1.City a1.Pay a1.Need a1.Rate a1.Flags a1.Parts) a3 a4).bind fun (r10:Int × Int) =>
 if (r10.1 != r7.1) = true then
  some (false)
 else
  if (r10.2 != r7.2) = true then
   some (false)
  else
   (mrealm_Usance a0 a1.City a1.Pay).bind fun (r11:Int × Int) =>
   if (r11.2 != 0) = true then
    some (r1)
   else
    if (r11.1 != a2) = true then
     some (r1)
    else
     (mtenor_Due a0 (GBill.mk a1.Drawer a1.Drawee a1.Payee a1.Sum a1.Currency (GTenor.mk 4 0 0) a1.Day a1.City a1.Pay a1.Need a1.Rate a1.Flags a1.Parts) a3 a4).bind fun (r12:Int × Int) =>
     if r1 = true then
      if (r12.1 == r7.1) = true then
       some (r12.2 == r7.2)
      else
       some (false)
     else
      some (false)
noncomputable def mallongelaw11_TenorKinds_j2 (a0:GRealm) (a1:GBill) (a2:Int) (a3:Int) (a4:Int) (r1:Bool):Option (Bool) :=
 (mtenor_Due a0 (GBill.mk a1.Drawer a1.Drawee a1.Payee a1.Sum a1.Currency (GTenor.mk 2 a2 0) a1.Day a1.City a1.Pay a1.Need a1.Rate a1.Flags a1.Parts) (-1) a4).bind fun (r7:Int × Int) =>
 (mtenor_Due a0 (GBill.mk a1.Drawer a1.Drawee a1.Payee a1.Sum a1.Currency (GTenor.mk 1 a2 0) a1.Day a1.City a1.Pay a1.Need a1.Rate a1.Flags a1.Parts) a1.Day a4).bind fun (r8:Int × Int) =>
 (mtenor_Due a0 (GBill.mk a1.Drawer a1.Drawee a1.Payee a1.Sum a1.Currency (GTenor.mk 1 a2 0) a1.Day a1.City a1.Pay a1.Need a1.Rate a1.Flags a1.Parts) (-1) a4).bind fun (r9:Int × Int) =>
 if (r7.1 != r8.1) = true then
  if r1 = true then
   if (r7.1 == r8.1) = true then
    if (r7.2 == r8.2) = true then
     if (r7.2 != 0) = true then
      some (true)
     else
      some (r9.2 == 4)
    else
     some (false)
   else
    some (false)
  else
   some (false)
 else
  if (r7.2 != r8.2) = true then
   if r1 = true then
    if (r7.1 == r8.1) = true then
     if (r7.2 == r8.2) = true then
      if (r7.2 != 0) = true then
       some (true)
      else
       some (r9.2 == 4)
     else
      some (false)
    else
     some (false)
   else
    some (false)
  else
   if (r7.2 == 0) = true then
    if (r9.2 != 4) = true then
     if r1 = true then
      if (r7.1 == r8.1) = true then
       if (r7.2 == r8.2) = true then
        if (r7.2 != 0) = true then
         some (true)
        else
         some (r9.2 == 4)
       else
        some (false)
      else
       some (false)
     else
      some (false)
    else
     if decide (a2 < 0) = true then
      if r1 = true then
       if (r7.1 == r8.1) = true then
        if (r7.2 == r8.2) = true then
         if (r7.2 != 0) = true then
          some (true)
         else
          some (r9.2 == 4)
        else
         some (false)
       else
        some (false)
      else
       some (false)
     else
      if decide (a2 > 20000) = true then
       if r1 = true then
        if (r7.1 == r8.1) = true then
         if (r7.2 == r8.2) = true then
          if (r7.2 != 0) = true then
           some (true)
          else
           some (r9.2 == 4)
         else
          some (false)
        else
         some (false)
       else
        some (false)
      else
       (mallongelaw11_TenorKinds_j1 a0 a1 a2 a3 a4 r1 r7).bind fun (r14:Bool) =>
       some (r14)
   else
    if decide (a2 < 0) = true then
     if r1 = true then
      if (r7.1 == r8.1) = true then
       if (r7.2 == r8.2) = true then
        if (r7.2 != 0) = true then
         some (true)
        else
         some (r9.2 == 4)
       else
        some (false)
      else
       some (false)
     else
      some (false)
    else
     if decide (a2 > 20000) = true then
      if r1 = true then
       if (r7.1 == r8.1) = true then
        if (r7.2 == r8.2) = true then
         if (r7.2 != 0) = true then
          some (true)
         else
          some (r9.2 == 4)
        else
         some (false)
       else
        some (false)
      else
       some (false)
     else
      (mallongelaw11_TenorKinds_j1 a0 a1 a2 a3 a4 r1 r7).bind fun (r15:Bool) =>
      some (r15)
noncomputable def mallongelaw11_TenorKinds (a0:GRealm) (a1:GBill) (a2:Int) (a3:Int) (a4:Int):Option (Bool) :=
 (mallongelaw11_sane).bind fun (r1:Bool) =>
 (mallongeref09_Few a0).bind fun (r2:Bool) =>
 if (!(r2)) = true then
  some r1
 else
  (mrealm_Check a0).bind fun (r3:Int) =>
  if (r3 != 0) = true then
   some r1
  else
   if decide (a3 < 0) = true then
    some r1
   else
    if decide (a3 > 100000) = true then
     some r1
    else
     if decide (a1.Day < 0) = true then
      some r1
     else
      if decide (a1.Day > 100000) = true then
       some r1
      else
       (mtenor_Sights a1.Tenor).bind fun (r4:Bool) =>
       if (!(r4)) = true then
        (mtenor_Due a0 a1 a3 a4).bind fun (r5:Int × Int) =>
        (mtenor_Due a0 a1 (-1) a4).bind fun (r6:Int × Int) =>
        if (r5.1 != r6.1) = true then
         some false
        else
         if (r5.2 != r6.2) = true then
          some false
         else
          (mallongelaw11_TenorKinds_j2 a0 a1 a2 a3 a4 r1).bind fun (r17:Bool) =>
          some r17
       else
        (mallongelaw11_TenorKinds_j2 a0 a1 a2 a3 a4 r1).bind fun (r18:Bool) =>
        some r18
noncomputable def mcalendar_Open (a0:GCity) (a1:Int):Option (Bool × Int):=(gTown a0).map fun t=>(Cal.opB t a1,Cal.dE a1)
noncomputable def mallongeref11_Halted_l1_s (a0:GRealm) (a1:Int) (a2:Int) (p1:Int):Option ((Int) ⊕ (Unit ⊕ Unit)) :=
 if decide (p1 < (a0.Halts.length:Int)) = true then
  (at? a0.Halts p1).bind fun (x2:GHalt) =>
  if (x2.Order == a1) = true then
   (at? a0.Halts p1).bind fun (x3:GHalt) =>
   if decide (x3.From ≤ a2) = true then
    (at? a0.Halts p1).bind fun (x4:GHalt) =>
    if decide (a2 ≤ x4.To) = true then
     some (.inr (.inr (())))
    else
     some (.inl (IntKind.wrap .i64 (p1 + 1)))
   else
    some (.inl (IntKind.wrap .i64 (p1 + 1)))
  else
   some (.inl (IntKind.wrap .i64 (p1 + 1)))
 else
  some (.inr (.inl ()))
noncomputable def mallongeref11_Halted_l1 (a0:GRealm) (a1:Int) (a2:Int) (p1:Int):Option (Unit ⊕ Unit) :=
 Iter (fun (w:Int)=>mallongeref11_Halted_l1_s a0 a1 a2 w) p1
noncomputable def mallongeref11_Halted (a0:GRealm) (a1:Int) (a2:Int):Option (Bool) :=
 (mallongeref11_Halted_l1 a0 a1 a2 0).bind fun (r5:Unit ⊕ Unit)=>Sum.elim (fun z6 =>
 some false) (fun z7 =>
 some true) r5
noncomputable def mallongelaw11_TenorFirst_l1_s (a0:GRealm) (a1:GBill) (a3:Int) (r1:Bool) (r4:Int × Int) (r5:Int) (r6:Int) (p10:Int):Option ((Int) ⊕ (Unit ⊕ Unit)) :=
 if decide (p10 < r4.1) = true then
  if decide (p10 < (IntKind.wrap .i64 ((IntKind.wrap .i64 (r5 + a3)) + 500))) = true then
   (at? a0.Cities a1.Pay).bind fun (x11:GCity) =>
   (mcalendar_Open x11 p10).bind fun (r12:Bool × Int) =>
   if (r12.2 != 0) = true then
    some (.inr (.inr (())))
   else
    if r12.1 = true then
     (mallongeref11_Halted a0 r6 p10).bind fun (r13:Bool) =>
     if (!(r13)) = true then
      some (.inr (.inr (())))
     else
      some (.inl (IntKind.wrap .i64 (p10 + 1)))
    else
     some (.inl (IntKind.wrap .i64 (p10 + 1)))
  else
   some (.inr (.inl ()))
 else
  some (.inr (.inl ()))
noncomputable def mallongelaw11_TenorFirst_l1 (a0:GRealm) (a1:GBill) (a3:Int) (r1:Bool) (r4:Int × Int) (r5:Int) (r6:Int) (p10:Int):Option (Unit ⊕ Unit) :=
 Iter (fun (w:Int)=>mallongelaw11_TenorFirst_l1_s a0 a1 a3 r1 r4 r5 r6 w) p10
noncomputable def mallongelaw11_TenorFirst (a0:GRealm) (a1:GBill) (a2:Int) (a3:Int):Option (Bool) :=
 (mallongelaw11_sane).bind fun (r1:Bool) =>
 (mallongeref09_Few a0).bind fun (r2:Bool) =>
 if (!(r2)) = true then
  some r1
 else
  (mrealm_Check a0).bind fun (r3:Int) =>
  if (r3 != 0) = true then
   some r1
  else
   (mtenor_Due a0 a1 a2 a3).bind fun (r4:Int × Int) =>
   if (r4.2 != 0) = true then
    if r1 = true then
     some (r4.1 == 0)
    else
     some false
   else
    (mallongeref11_Base a0 a1 a2).bind fun (r5:Int) =>
    (mrealm_OrderAt a0 a1.Pay).bind fun (r6:Int) =>
    if decide (a1.Pay < 0) = true then
     some false
    else
     if decide (a1.Pay ≥ (a0.Cities.length:Int)) = true then
      some false
     else
      if decide (r4.1 < (IntKind.wrap .i64 (r5 + a3))) = true then
       some false
      else
       if decide (r4.1 > 100000) = true then
        some false
       else
        (at? a0.Cities a1.Pay).bind fun (x7:GCity) =>
        (mcalendar_Open x7 r4.1).bind fun (r8:Bool × Int) =>
        if (r8.2 != 0) = true then
         some false
        else
         if (!(r8.1)) = true then
          some false
         else
          (mallongeref11_Halted a0 r6 r4.1).bind fun (r9:Bool) =>
          if r9 = true then
           some false
          else
           (mallongelaw11_TenorFirst_l1 a0 a1 a3 r1 r4 r5 r6 (IntKind.wrap .i64 (r5 + a3))).bind fun (r14:Unit ⊕ Unit)=>Sum.elim (fun z15 =>
           some r1) (fun z16 =>
           some false) r14
end Go.Proofs.Ytjllkddmkdajcaa
