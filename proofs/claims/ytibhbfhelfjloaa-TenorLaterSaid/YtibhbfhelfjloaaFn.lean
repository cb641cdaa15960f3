/- What the functions compute, as plain definitions. Printed by a program. -/
import Derived.Test.YtibhbfhelfjloaaTab
set_option linter.unusedVariables false
set_option linter.unusedSimpArgs false
namespace Go.Proofs.Ytibhbfhelfjloaa
open Vm
open Go.RowKit
def gTown (c:GCity):Option Town:=if c.Rest.length ≤ 140737488355328 ∧ c.Feasts.length ≤ 140737488355328 ∧ c.Shut.length ≤ 140737488355328 then some ⟨c.Rest,c.Feasts,c.Shut⟩ else none
noncomputable def mallongelaw11_example:Option (GRealm) :=
 some (GRealm.mk [(⟨#[102,114,97,110,99]⟩ : ByteArray)] [(GCity.mk (⟨#[76,121,111,110]⟩ : ByteArray) 0 0 [5,6] [] [])] [] [] [(GOrder.mk (⟨#[103,101,110,101,118,97]⟩ : ByteArray) false [] [])] [] [] [(GHalt.mk 0 20 30)])
noncomputable def mrealm_names_l1_s (a0:GRealm) (p1:Int) (p2:List ByteArray):Option ((Int × (List ByteArray)) ⊕ ((List ByteArray))) :=
 if decide (p1 < (a0.Cities.length:Int)) = true then
  (at? a0.Cities p1).bind fun (x3:GCity) =>
  if (p2.length + 1) * 16 ≤ 140737488355328 then
   some (.inl (IntKind.wrap .i64 (p1 + 1),p2 ++ [x3.Name]))
  else none
 else
  some (.inr (p2))
noncomputable def mrealm_names_l1 (a0:GRealm) (p1:Int) (p2:List ByteArray):Option ((List ByteArray)) :=
 Iter (fun (w:Int × (List ByteArray))=>mrealm_names_l1_s a0 w.1 w.2) (p1,p2)
noncomputable def mrealm_names_l2_s (a0:GRealm) (r5:(List ByteArray)) (p6:Int) (p7:List ByteArray):Option ((Int × (List ByteArray)) ⊕ ((List ByteArray))) :=
 if decide (p6 < (a0.Firms.length:Int)) = true then
  (at? a0.Firms p6).bind fun (x8:GFirm) =>
  if (p7.length + 1) * 16 ≤ 140737488355328 then
   some (.inl (IntKind.wrap .i64 (p6 + 1),p7 ++ [x8.Name]))
  else none
 else
  some (.inr (p7))
noncomputable def mrealm_names_l2 (a0:GRealm) (r5:(List ByteArray)) (p6:Int) (p7:List ByteArray):Option ((List ByteArray)) :=
 Iter (fun (w:Int × (List ByteArray))=>mrealm_names_l2_s a0 r5 w.1 w.2) (p6,p7)
noncomputable def mrealm_names_l3_s (a0:GRealm) (r10:(List ByteArray)) (r5:(List ByteArray)) (p11:Int) (p12:List ByteArray):Option ((Int × (List ByteArray)) ⊕ ((List ByteArray))) :=
 if decide (p11 < (a0.Orders.length:Int)) = true then
  (at? a0.Orders p11).bind fun (x13:GOrder) =>
  if (p12.length + 1) * 16 ≤ 140737488355328 then
   some (.inl (IntKind.wrap .i64 (p11 + 1),p12 ++ [x13.Name]))
  else none
 else
  some (.inr (p12))
noncomputable def mrealm_names_l3 (a0:GRealm) (r10:(List ByteArray)) (r5:(List ByteArray)) (p11:Int) (p12:List ByteArray):Option ((List ByteArray)) :=
 Iter (fun (w:Int × (List ByteArray))=>mrealm_names_l3_s a0 r10 r5 w.1 w.2) (p11,p12)
noncomputable def mrealm_names (a0:GRealm):Option ((List ByteArray) × (List ByteArray) × (List ByteArray)) :=
 (mrealm_names_l1 a0 0 []).bind fun (r5:(List ByteArray)) =>
 (mrealm_names_l2 a0 r5 0 []).bind fun (r10:(List ByteArray)) =>
 (mrealm_names_l3 a0 r10 r5 0 []).bind fun (r15:(List ByteArray)) =>
 some (r5,r10,r15)
noncomputable def mrealm_isName_j1 (a0:ByteArray) (p1:Int) (x2:Int) (p3:Bool):Option (Unit ⊕ Unit) :=
 if (!(p3)) = true then
  if (p1 == 0) = true then
   some (.inr (()))
  else
   if (x2 != 95) = true then
    if decide (x2 < 48) = true then
     some (.inr (()))
    else
     if decide (x2 > 57) = true then
      some (.inr (()))
     else
      some (.inl ())
   else
    some (.inl ())
 else
  some (.inl ())
noncomputable def mrealm_isName_l2_s (a0:ByteArray) (p1:Int):Option ((Int) ⊕ (Unit ⊕ Unit)) :=
 if decide (p1 < ((bytesL a0).length:Int)) = true then
  (at? (bytesL a0) p1).bind fun (x2:Int) =>
  if decide (x2 ≥ 97) = true then
   if decide (x2 ≤ 122) = true then
    (mrealm_isName_j1 a0 p1 x2 true).bind fun (r4:Unit ⊕ Unit)=>Sum.elim (fun z5 =>
    some (.inl (IntKind.wrap .i64 (p1 + 1)))) (fun z6 =>
    some (.inr (.inr (())))) r4
   else
    if decide (x2 ≥ 65) = true then
     (mrealm_isName_j1 a0 p1 x2 (decide (x2 ≤ 90))).bind fun (r7:Unit ⊕ Unit)=>Sum.elim (fun z8 =>
     some (.inl (IntKind.wrap .i64 (p1 + 1)))) (fun z9 =>
     some (.inr (.inr (())))) r7
    else
     (mrealm_isName_j1 a0 p1 x2 false).bind fun (r10:Unit ⊕ Unit)=>Sum.elim (fun z11 =>
     some (.inl (IntKind.wrap .i64 (p1 + 1)))) (fun z12 =>
     some (.inr (.inr (())))) r10
  else
   if decide (x2 ≥ 65) = true then
    (mrealm_isName_j1 a0 p1 x2 (decide (x2 ≤ 90))).bind fun (r13:Unit ⊕ Unit)=>Sum.elim (fun z14 =>
    some (.inl (IntKind.wrap .i64 (p1 + 1)))) (fun z15 =>
    some (.inr (.inr (())))) r13
   else
    (mrealm_isName_j1 a0 p1 x2 false).bind fun (r16:Unit ⊕ Unit)=>Sum.elim (fun z17 =>
    some (.inl (IntKind.wrap .i64 (p1 + 1)))) (fun z18 =>
    some (.inr (.inr (())))) r16
 else
  some (.inr (.inl ()))
noncomputable def mrealm_isName_l2 (a0:ByteArray) (p1:Int):Option (Unit ⊕ Unit) :=
 Iter (fun (w:Int)=>mrealm_isName_l2_s a0 w) p1
noncomputable def mrealm_isName (a0:ByteArray):Option (Bool) :=
 if (a0.toList == ByteArray.empty.toList) = true then
  some false
 else
  if decide ((a0.size:Int) > 20) = true then
   some false
  else
   (mrealm_isName_l2 a0 0).bind fun (r19:Unit ⊕ Unit)=>Sum.elim (fun z20 =>
   some true) (fun z21 =>
   some false) r19
noncomputable def mslices_Index_string_string_l1_s (a0:List ByteArray) (a1:ByteArray) (p1:Int):Option ((Int) ⊕ (Unit ⊕ Int)) :=
 if decide (p1 < (a0.length:Int)) = true then
  (at? a0 p1).bind fun (x2:ByteArray) =>
  if (a1.toList == x2.toList) = true then
   some (.inr (.inr (p1)))
  else
   some (.inl (IntKind.wrap .i64 (p1 + 1)))
 else
  some (.inr (.inl ()))
noncomputable def mslices_Index_string_string_l1 (a0:List ByteArray) (a1:ByteArray) (p1:Int):Option (Unit ⊕ Int) :=
 Iter (fun (w:Int)=>mslices_Index_string_string_l1_s a0 a1 w) p1
noncomputable def mslices_Index_string_string (a0:List ByteArray) (a1:ByteArray):Option (Int) :=
 (mslices_Index_string_string_l1 a0 a1 0).bind fun (r4:Unit ⊕ Int)=>Sum.elim (fun z5 =>
 some (-1)) (fun z6 =>
 some z6) r4
noncomputable def mslices_Contains_string_string (a0:List ByteArray) (a1:ByteArray):Option (Bool) :=
 (mslices_Index_string_string a0 a1).bind fun (r1:Int) =>
 some (decide (r1 ≥ 0))
noncomputable def mrealm_named (a0:List ByteArray) (a1:Int):Option (Int) :=
 (at? a0 a1).bind fun (x1:ByteArray) =>
 (mrealm_isName x1).bind fun (r2:Bool) =>
 if (!(r2)) = true then
  some 2
 else
  if sliceOk a0.length 0 a1 then
   (at? a0 a1).bind fun (x3:ByteArray) =>
   (mslices_Contains_string_string (sliceL a0 0 a1) x3).bind fun (r4:Bool) =>
   if r4 = true then
    some 5
   else
    some 0
  else none
noncomputable def mrealm_Check_1 (a0:Int):Option (Bool) :=
 some true
noncomputable def mrealm_fits_s1_l1_s (a0:List ByteArray) (p1:Int):Option ((Int) ⊕ (Unit ⊕ Int)) :=
 if decide (p1 < (a0.length:Int)) = true then
  (mrealm_named a0 p1).bind fun (r2:Int) =>
  if (r2 != 0) = true then
   some (.inr (.inr (r2)))
  else
   (mrealm_Check_1 p1).bind fun (r3:Bool) =>
   if (!(r3)) = true then
    some (.inr (.inr (1)))
   else
    some (.inl (IntKind.wrap .i64 (p1 + 1)))
 else
  some (.inr (.inl ()))
noncomputable def mrealm_fits_s1_l1 (a0:List ByteArray) (p1:Int):Option (Unit ⊕ Int) :=
 Iter (fun (w:Int)=>mrealm_fits_s1_l1_s a0 w) p1
noncomputable def mrealm_fits_s1 (a0:List ByteArray) (a1:Int):Option (Int) :=
 if decide ((a0.length:Int) > a1) = true then
  some 6
 else
  (mrealm_fits_s1_l1 a0 0).bind fun (r5:Unit ⊕ Int)=>Sum.elim (fun z6 =>
  some 0) (fun z7 =>
  some z7) r5
noncomputable def mrealm_in (a0:Int) (a1:Int):Option (Bool) :=
 if decide (a0 ≥ 0) = true then
  some (decide (a0 < a1))
 else
  some false
noncomputable def mrealm_rising_l1_s (a0:List Int) (a1:Int) (a2:Int) (p1:Int):Option ((Int) ⊕ (Unit ⊕ Unit)) :=
 if decide (p1 < (a0.length:Int)) = true then
  (at? a0 p1).bind fun (x2:Int) =>
  if decide (x2 < a1) = true then
   some (.inr (.inr (())))
  else
   if decide (x2 > a2) = true then
    some (.inr (.inr (())))
   else
    if decide (p1 > 0) = true then
     (at? a0 (IntKind.wrap .i64 (p1 - 1))).bind fun (x3:Int) =>
     if decide (x2 ≤ x3) = true then
      some (.inr (.inr (())))
     else
      some (.inl (IntKind.wrap .i64 (p1 + 1)))
    else
     some (.inl (IntKind.wrap .i64 (p1 + 1)))
 else
  some (.inr (.inl ()))
noncomputable def mrealm_rising_l1 (a0:List Int) (a1:Int) (a2:Int) (p1:Int):Option (Unit ⊕ Unit) :=
 Iter (fun (w:Int)=>mrealm_rising_l1_s a0 a1 a2 w) p1
noncomputable def mrealm_rising (a0:List Int) (a1:Int) (a2:Int):Option (Bool) :=
 (mrealm_rising_l1 a0 a1 a2 0).bind fun (r4:Unit ⊕ Unit)=>Sum.elim (fun z5 =>
 some true) (fun z6 =>
 some false) r4
noncomputable def mrealm_city_l1_s (a0:GRealm) (a1:GCity) (p1:Int):Option ((Int) ⊕ (Unit ⊕ Unit)) :=
 if decide (p1 < (a1.Feasts.length:Int)) = true then
  (at? a1.Feasts p1).bind fun (x2:Int) =>
  if decide ((x2.tmod 100) < 1) = true then
   some (.inr (.inr (())))
  else
   if decide ((x2.tmod 100) > 31) = true then
    some (.inr (.inr (())))
   else
    some (.inl (IntKind.wrap .i64 (p1 + 1)))
 else
  some (.inr (.inl ()))
noncomputable def mrealm_city_l1 (a0:GRealm) (a1:GCity) (p1:Int):Option (Unit ⊕ Unit) :=
 Iter (fun (w:Int)=>mrealm_city_l1_s a0 a1 w) p1
noncomputable def mrealm_city (a0:GRealm) (a1:GCity):Option (Bool) :=
 (mrealm_city_l1 a0 a1 0).bind fun (r3:Unit ⊕ Unit)=>Sum.elim (fun z4 =>
 if decide ((a1.Feasts.length:Int) > 60) = true then
   some false
  else
   if decide ((a1.Shut.length:Int) > 200) = true then
    some false
   else
    (mrealm_in a1.Order (a0.Orders.length:Int)).bind fun (r6:Bool) =>
    if (!(r6)) = true then
     some false
    else
     (mrealm_in a1.Currency (a0.Currencies.length:Int)).bind fun (r7:Bool) =>
     if (!(r7)) = true then
      some false
     else
      (mrealm_rising a1.Rest 0 6).bind fun (r8:Bool) =>
      if r8 = true then
       (mrealm_rising a1.Feasts 101 1231).bind fun (r9:Bool) =>
       if r9 = true then
        (mrealm_rising a1.Shut 0 100000).bind fun (r10:Bool) =>
        some r10
       else
        some false
      else
       some false) (fun z5 =>
 some false) r3
noncomputable def mrealm_Check_2_s1 (a0:Int) (a1:GRealm):Option (Bool) :=
 (at? a1.Cities a0).bind fun (x1:GCity) =>
 (mrealm_city a1 x1).bind fun (r2:Bool) =>
 some r2
noncomputable def mrealm_fits_s2_l1_s (a0:List ByteArray) (a2:GRealm) (p1:Int):Option ((Int) ⊕ (Unit ⊕ Int)) :=
 if decide (p1 < (a0.length:Int)) = true then
  (mrealm_named a0 p1).bind fun (r2:Int) =>
  if (r2 != 0) = true then
   some (.inr (.inr (r2)))
  else
   (mrealm_Check_2_s1 p1 a2).bind fun (r3:Bool) =>
   if (!(r3)) = true then
    some (.inr (.inr (1)))
   else
    some (.inl (IntKind.wrap .i64 (p1 + 1)))
 else
  some (.inr (.inl ()))
noncomputable def mrealm_fits_s2_l1 (a0:List ByteArray) (a2:GRealm) (p1:Int):Option (Unit ⊕ Int) :=
 Iter (fun (w:Int)=>mrealm_fits_s2_l1_s a0 a2 w) p1
noncomputable def mrealm_fits_s2 (a0:List ByteArray) (a1:Int) (a2:GRealm):Option (Int) :=
 if decide ((a0.length:Int) > a1) = true then
  some 6
 else
  (mrealm_fits_s2_l1 a0 a2 0).bind fun (r5:Unit ⊕ Int)=>Sum.elim (fun z6 =>
  some 0) (fun z7 =>
  some z7) r5
noncomputable def mrealm_Check_3_s1 (a0:Int) (a1:GRealm):Option (Bool) :=
 (at? a1.Firms a0).bind fun (x1:GFirm) =>
 (mrealm_in x1.City (a1.Cities.length:Int)).bind fun (r2:Bool) =>
 if r2 = true then
  (at? a1.Firms a0).bind fun (x3:GFirm) =>
  (mrealm_in x3.Group (a1.Groups.length:Int)).bind fun (r4:Bool) =>
  some r4
 else
  some false
noncomputable def mrealm_fits_s3_l1_s (a0:List ByteArray) (a2:GRealm) (p1:Int):Option ((Int) ⊕ (Unit ⊕ Int)) :=
 if decide (p1 < (a0.length:Int)) = true then
  (mrealm_named a0 p1).bind fun (r2:Int) =>
  if (r2 != 0) = true then
   some (.inr (.inr (r2)))
  else
   (mrealm_Check_3_s1 p1 a2).bind fun (r3:Bool) =>
   if (!(r3)) = true then
    some (.inr (.inr (1)))
   else
    some (.inl (IntKind.wrap .i64 (p1 + 1)))
 else
  some (.inr (.inl ()))
noncomputable def mrealm_fits_s3_l1 (a0:List ByteArray) (a2:GRealm) (p1:Int):Option (Unit ⊕ Int) :=
 Iter (fun (w:Int)=>mrealm_fits_s3_l1_s a0 a2 w) p1
noncomputable def mrealm_fits_s3 (a0:List ByteArray) (a1:Int) (a2:GRealm):Option (Int) :=
 if decide ((a0.length:Int) > a1) = true then
  some 6
 else
  (mrealm_fits_s3_l1 a0 a2 0).bind fun (r5:Unit ⊕ Int)=>Sum.elim (fun z6 =>
  some 0) (fun z7 =>
  some z7) r5
noncomputable def mrealm_order_l1_s (a0:GOrder) (p1:Int) (p2:List Int):Option ((Int × (List Int)) ⊕ (((List Int)) ⊕ Unit)) :=
 if decide (p1 < (a0.Choices.length:Int)) = true then
  (at? a0.Choices p1).bind fun (x3:GChoice) =>
  if (p2.length + 1) * 8 ≤ 140737488355328 then
   (mrealm_in x3.By 5).bind fun (r4:Bool) =>
   if (!(r4)) = true then
    some (.inr (.inr (())))
   else
    some (.inl (IntKind.wrap .i64 (p1 + 1),p2 ++ [x3.Ask]))
  else none
 else
  some (.inr (.inl p2))
noncomputable def mrealm_order_l1 (a0:GOrder) (p1:Int) (p2:List Int):Option (((List Int)) ⊕ Unit) :=
 Iter (fun (w:Int × (List Int))=>mrealm_order_l1_s a0 w.1 w.2) (p1,p2)
noncomputable def mrealm_order_l2_s (a0:GOrder) (z7:(List Int)) (p9:Int) (p10:List Int):Option ((Int × (List Int)) ⊕ ((List Int))) :=
 if decide (p9 < (a0.Rules.length:Int)) = true then
  (at? a0.Rules p9).bind fun (x11:GRule) =>
  if (p10.length + 1) * 8 ≤ 140737488355328 then
   some (.inl (IntKind.wrap .i64 (p9 + 1),p10 ++ [x11.Ask]))
  else none
 else
  some (.inr (p10))
noncomputable def mrealm_order_l2 (a0:GOrder) (z7:(List Int)) (p9:Int) (p10:List Int):Option ((List Int)) :=
 Iter (fun (w:Int × (List Int))=>mrealm_order_l2_s a0 z7 w.1 w.2) (p9,p10)
noncomputable def mrealm_order (a0:GOrder):Option (Bool) :=
 (mrealm_order_l1 a0 0 []).bind fun (r6:((List Int)) ⊕ Unit)=>Sum.elim (fun z7 =>
 (mrealm_order_l2 a0 z7 0 []).bind fun (r13:(List Int)) =>
  (mrealm_rising z7 0 21).bind fun (r14:Bool) =>
  if r14 = true then
   (mrealm_rising r13 0 21).bind fun (r15:Bool) =>
   some r15
  else
   some false) (fun z8 =>
 some false) r6
noncomputable def mrealm_Check_4_s1 (a0:Int) (a1:GRealm):Option (Bool) :=
 (at? a1.Orders a0).bind fun (x1:GOrder) =>
 (mrealm_order x1).bind fun (r2:Bool) =>
 some r2
noncomputable def mrealm_fits_s4_l1_s (a0:List ByteArray) (a2:GRealm) (p1:Int):Option ((Int) ⊕ (Unit ⊕ Int)) :=
 if decide (p1 < (a0.length:Int)) = true then
  (mrealm_named a0 p1).bind fun (r2:Int) =>
  if (r2 != 0) = true then
   some (.inr (.inr (r2)))
  else
   (mrealm_Check_4_s1 p1 a2).bind fun (r3:Bool) =>
   if (!(r3)) = true then
    some (.inr (.inr (1)))
   else
    some (.inl (IntKind.wrap .i64 (p1 + 1)))
 else
  some (.inr (.inl ()))
noncomputable def mrealm_fits_s4_l1 (a0:List ByteArray) (a2:GRealm) (p1:Int):Option (Unit ⊕ Int) :=
 Iter (fun (w:Int)=>mrealm_fits_s4_l1_s a0 a2 w) p1
noncomputable def mrealm_fits_s4 (a0:List ByteArray) (a1:Int) (a2:GRealm):Option (Int) :=
 if decide ((a0.length:Int) > a1) = true then
  some 6
 else
  (mrealm_fits_s4_l1 a0 a2 0).bind fun (r5:Unit ⊕ Int)=>Sum.elim (fun z6 =>
  some 0) (fun z7 =>
  some z7) r5
noncomputable def mrealm_usances_l1_s (a0:GRealm) (p1:Int) (x2:GUsance) (p5:Int):Option ((Int) ⊕ (Unit ⊕ Unit)) :=
 if decide (p5 < ((sliceL a0.Usances 0 p1).length:Int)) = true then
  (at? (sliceL a0.Usances 0 p1) p5).bind fun (x6:GUsance) =>
  if (x6.From == x2.From) = true then
   if (x6.To == x2.To) = true then
    some (.inr (.inr (())))
   else
    some (.inl (IntKind.wrap .i64 (p5 + 1)))
  else
   some (.inl (IntKind.wrap .i64 (p5 + 1)))
 else
  some (.inr (.inl ()))
noncomputable def mrealm_usances_l1 (a0:GRealm) (p1:Int) (x2:GUsance) (p5:Int):Option (Unit ⊕ Unit) :=
 Iter (fun (w:Int)=>mrealm_usances_l1_s a0 p1 x2 w) p5
noncomputable def mrealm_usances_l2_s (a0:GRealm) (p1:Int):Option ((Int) ⊕ (Unit ⊕ Int)) :=
 if decide (p1 < (a0.Usances.length:Int)) = true then
  (at? a0.Usances p1).bind fun (x2:GUsance) =>
  (mrealm_in x2.From (a0.Cities.length:Int)).bind fun (r3:Bool) =>
  if (!(r3)) = true then
   some (.inr (.inr (1)))
  else
   (mrealm_in x2.To (a0.Cities.length:Int)).bind fun (r4:Bool) =>
   if (!(r4)) = true then
    some (.inr (.inr (1)))
   else
    if decide (x2.Days < 1) = true then
     some (.inr (.inr (1)))
    else
     if decide (x2.Days > 20000) = true then
      some (.inr (.inr (1)))
     else
      if sliceOk a0.Usances.length 0 p1 then
       (mrealm_usances_l1 a0 p1 x2 0).bind fun (r7:Unit ⊕ Unit)=>Sum.elim (fun z8 =>
       some (.inl (IntKind.wrap .i64 (p1 + 1)))) (fun z9 =>
       some (.inr (.inr (5)))) r7
      else none
 else
  some (.inr (.inl ()))
noncomputable def mrealm_usances_l2 (a0:GRealm) (p1:Int):Option (Unit ⊕ Int) :=
 Iter (fun (w:Int)=>mrealm_usances_l2_s a0 w) p1
noncomputable def mrealm_usances (a0:GRealm):Option (Int) :=
 if decide ((a0.Usances.length:Int) > 100) = true then
  some 6
 else
  (mrealm_usances_l2 a0 0).bind fun (r11:Unit ⊕ Int)=>Sum.elim (fun z12 =>
  some 0) (fun z13 =>
  some z13) r11
noncomputable def mrealm_rest_l1_s (a0:GRealm) (p1:Int):Option ((Int) ⊕ (Unit ⊕ Unit)) :=
 if decide (p1 < (a0.Rates.length:Int)) = true then
  (at? a0.Rates p1).bind fun (x2:GRate) =>
  (mrealm_in x2.From (a0.Currencies.length:Int)).bind fun (r3:Bool) =>
  if (!(r3)) = true then
   some (.inr (.inr (())))
  else
   (mrealm_in x2.To (a0.Currencies.length:Int)).bind fun (r4:Bool) =>
   if (!(r4)) = true then
    some (.inr (.inr (())))
   else
    if (x2.From == x2.To) = true then
     some (.inr (.inr (())))
    else
     (mrealm_in (IntKind.wrap .i64 (x2.Num - 1)) 1073741824).bind fun (r5:Bool) =>
     if (!(r5)) = true then
      some (.inr (.inr (())))
     else
      (mrealm_in (IntKind.wrap .i64 (x2.Den - 1)) 1073741824).bind fun (r6:Bool) =>
      if (!(r6)) = true then
       some (.inr (.inr (())))
      else
       (mrealm_in x2.Since 100001).bind fun (r7:Bool) =>
       if (!(r7)) = true then
        some (.inr (.inr (())))
       else
        some (.inl (IntKind.wrap .i64 (p1 + 1)))
 else
  some (.inr (.inl ()))
noncomputable def mrealm_rest_l1 (a0:GRealm) (p1:Int):Option (Unit ⊕ Unit) :=
 Iter (fun (w:Int)=>mrealm_rest_l1_s a0 w) p1
noncomputable def mrealm_rest_l2_s (a0:GRealm) (p11:Int):Option ((Int) ⊕ (Unit ⊕ Unit)) :=
 if decide (p11 < (a0.Halts.length:Int)) = true then
  (at? a0.Halts p11).bind fun (x12:GHalt) =>
  (mrealm_in x12.Order (a0.Orders.length:Int)).bind fun (r13:Bool) =>
  if (!(r13)) = true then
   some (.inr (.inr (())))
  else
   if decide (x12.From < 0) = true then
    some (.inr (.inr (())))
   else
    if decide (x12.From > x12.To) = true then
     some (.inr (.inr (())))
    else
     if decide (x12.To > 100000) = true then
      some (.inr (.inr (())))
     else
      some (.inl (IntKind.wrap .i64 (p11 + 1)))
 else
  some (.inr (.inl ()))
noncomputable def mrealm_rest_l2 (a0:GRealm) (p11:Int):Option (Unit ⊕ Unit) :=
 Iter (fun (w:Int)=>mrealm_rest_l2_s a0 w) p11
noncomputable def mrealm_rest (a0:GRealm):Option (Int) :=
 if decide ((a0.Rates.length:Int) > 100) = true then
  some 6
 else
  (mrealm_rest_l1 a0 0).bind fun (r8:Unit ⊕ Unit)=>Sum.elim (fun z9 =>
  if decide ((a0.Halts.length:Int) > 20) = true then
    some 6
   else
    (mrealm_rest_l2 a0 0).bind fun (r14:Unit ⊕ Unit)=>Sum.elim (fun z15 =>
    some 0) (fun z16 =>
    some 1) r14) (fun z10 =>
  some 1) r8
noncomputable def mrealm_Check_l1_s (a0:GRealm) (r1:(List ByteArray) × (List ByteArray) × (List ByteArray)) (p4:Int):Option ((Int) ⊕ (Unit ⊕ Unit)) :=
 if decide (p4 < (a0.Groups.length:Int)) = true then
  (at? a0.Groups p4).bind fun (x5:GGroup) =>
  (mrealm_in x5.Grade 10).bind fun (r6:Bool) =>
  if (!(r6)) = true then
   some (.inr (.inr (())))
  else
   some (.inl (IntKind.wrap .i64 (p4 + 1)))
 else
  some (.inr (.inl ()))
noncomputable def mrealm_Check_l1 (a0:GRealm) (r1:(List ByteArray) × (List ByteArray) × (List ByteArray)) (p4:Int):Option (Unit ⊕ Unit) :=
 Iter (fun (w:Int)=>mrealm_Check_l1_s a0 r1 w) p4
noncomputable def mrealm_Check (a0:GRealm):Option (Int) :=
 (mrealm_names a0).bind fun (r1:(List ByteArray) × (List ByteArray) × (List ByteArray)) =>
 (mrealm_fits_s1 a0.Currencies 8).bind fun (r2:Int) =>
 if (r2 != 0) = true then
  some r2
 else
  (mrealm_fits_s2 r1.1 40 a0).bind fun (r3:Int) =>
  if (r3 != 0) = true then
   some r3
  else
   if decide ((a0.Groups.length:Int) > 20) = true then
    some 6
   else
    (mrealm_Check_l1 a0 r1 0).bind fun (r7:Unit ⊕ Unit)=>Sum.elim (fun z8 =>
    (mrealm_fits_s3 r1.2.1 200 a0).bind fun (r10:Int) =>
     if (r10 != 0) = true then
      some r10
     else
      (mrealm_fits_s4 r1.2.2 20 a0).bind fun (r11:Int) =>
      if (r11 != 0) = true then
       some r11
      else
       (mrealm_usances a0).bind fun (r12:Int) =>
       if (r12 != 0) = true then
        some r12
       else
        (mrealm_rest a0).bind fun (r13:Int) =>
        some r13) (fun z9 =>
    some 1) r7
noncomputable def mtenor_isCity (a0:GRealm) (a1:Int):Option (Bool) :=
 if decide (a1 ≥ 0) = true then
  some (decide (a1 < (a0.Cities.length:Int)))
 else
  some false
noncomputable def mtenor_isDay (a0:Int):Option (Bool) :=
 if decide (a0 ≥ 0) = true then
  some (decide (a0 ≤ 100000))
 else
  some false
noncomputable def mtenor_Sights (a0:GTenor):Option (Bool) :=
 if (a0.Kind == 0) = true then
  some true
 else
  some (a0.Kind == 1)
noncomputable def mcalendar_AddMonths (a0:Int) (a1:Int):Option (Int × Int):=some (Cal.addV a0 a1,Cal.addE a0 a1)
noncomputable def mtenor_after (a0:Int) (a1:GTenor):Option (Int × Int) :=
 if decide (a1.N < 0) = true then
  some (0,3)
 else
  if decide (a1.N > 20000) = true then
   some (0,3)
  else
   if (a1.Unit == 1) = true then
    (mcalendar_AddMonths a0 a1.N).bind fun (r1:Int × Int) =>
    some (r1.1,r1.2)
   else
    some (IntKind.wrap .i64 (a0 + a1.N),0)
noncomputable def mrealm_Usance_l1_s (a0:GRealm) (a1:Int) (a2:Int) (p1:Int):Option ((Int) ⊕ (Unit ⊕ Int)) :=
 if decide (p1 < (a0.Usances.length:Int)) = true then
  (at? a0.Usances p1).bind fun (x2:GUsance) =>
  if (x2.From == a1) = true then
   if (x2.To == a2) = true then
    some (.inr (.inr (x2.Days)))
   else
    some (.inl (IntKind.wrap .i64 (p1 + 1)))
  else
   some (.inl (IntKind.wrap .i64 (p1 + 1)))
 else
  some (.inr (.inl ()))
noncomputable def mrealm_Usance_l1 (a0:GRealm) (a1:Int) (a2:Int) (p1:Int):Option (Unit ⊕ Int) :=
 Iter (fun (w:Int)=>mrealm_Usance_l1_s a0 a1 a2 w) p1
noncomputable def mrealm_Usance (a0:GRealm) (a1:Int) (a2:Int):Option (Int × Int) :=
 (mrealm_Usance_l1 a0 a1 a2 0).bind fun (r4:Unit ⊕ Int)=>Sum.elim (fun z5 =>
 some (0,4)) (fun z6 =>
 some (z6,0)) r4
noncomputable def mtenor_base (a0:GRealm) (a1:GBill) (a2:Int):Option (Int × Int) :=
 if (a1.Tenor.Kind == 0) = true then
  some (a2,0)
 else
  if (a1.Tenor.Kind == 1) = true then
   (mtenor_after a2 a1.Tenor).bind fun (r1:Int × Int) =>
   some (r1.1,r1.2)
  else
   if (a1.Tenor.Kind == 2) = true then
    (mtenor_after a1.Day a1.Tenor).bind fun (r2:Int × Int) =>
    some (r2.1,r2.2)
   else
    if (a1.Tenor.Kind == 4) = true then
     (mrealm_Usance a0 a1.City a1.Pay).bind fun (r3:Int × Int) =>
     some (IntKind.wrap .i64 (a1.Day + r3.1),r3.2)
    else
     some (a1.Tenor.N,0)
noncomputable def mrealm_OrderAt (a0:GRealm) (a1:Int):Option (Int) :=
 (mrealm_in a1 (a0.Cities.length:Int)).bind fun (r1:Bool) =>
 if (!(r1)) = true then
  some (-1)
 else
  (at? a0.Cities a1).bind fun (x2:GCity) =>
  some x2.Order
noncomputable def mtenor_skip_l1_s (a0:GRealm) (a1:Int) (p3:Int) (p4:Bool) (p5:Int):Option ((Int × Bool × Int) ⊕ (Int × Bool)) :=
 if decide (p5 < (a0.Halts.length:Int)) = true then
  (at? a0.Halts p5).bind fun (x6:GHalt) =>
  if (x6.Order == a1) = true then
   if decide (x6.From ≤ p3) = true then
    if decide (p3 ≤ x6.To) = true then
     some (.inl (IntKind.wrap .i64 (x6.To + 1),true,IntKind.wrap .i64 (p5 + 1)))
    else
     some (.inl (p3,p4,IntKind.wrap .i64 (p5 + 1)))
   else
    some (.inl (p3,p4,IntKind.wrap .i64 (p5 + 1)))
  else
   some (.inl (p3,p4,IntKind.wrap .i64 (p5 + 1)))
 else
  some (.inr ((p3,p4)))
noncomputable def mtenor_skip_l1 (a0:GRealm) (a1:Int) (p3:Int) (p4:Bool) (p5:Int):Option (Int × Bool) :=
 Iter (fun (w:Int × Bool × Int)=>mtenor_skip_l1_s a0 a1 w.1 w.2.1 w.2.2) (p3,p4,p5)
noncomputable def mtenor_skip_l2_s (a0:GRealm) (a1:Int) (p1:Int) (p2:Bool):Option ((Int × Bool) ⊕ (Int)) :=
 if p2 = true then
  (mtenor_skip_l1 a0 a1 p1 false 0).bind fun (r9:Int × Bool) =>
  some (.inl (r9.1,r9.2))
 else
  some (.inr (p1))
noncomputable def mtenor_skip_l2 (a0:GRealm) (a1:Int) (p1:Int) (p2:Bool):Option (Int) :=
 Iter (fun (w:Int × Bool)=>mtenor_skip_l2_s a0 a1 w.1 w.2) (p1,p2)
noncomputable def mtenor_skip (a0:GRealm) (a1:Int) (a2:Int):Option (Int) :=
 (mtenor_skip_l2 a0 a1 a2 true).bind fun (r11:Int) =>
 some r11
noncomputable def mcalendar_Next (a0:GCity) (a1:Int):Option (Int × Int):=(gTown a0).map fun t=>(Cal.got (Cal.nx1 t a1),Cal.gotE (Cal.nx1 t a1))
noncomputable def mtenor_settle_l1_s (a0:GRealm) (a1:Int) (r1:Int) (p2:Int):Option ((Int) ⊕ (Int × Int)) :=
 (mtenor_skip a0 r1 p2).bind fun (r3:Int) =>
 (at? a0.Cities a1).bind fun (x4:GCity) =>
 (mcalendar_Next x4 r3).bind fun (r5:Int × Int) =>
 if (r5.2 != 0) = true then
  some (.inr ((0,3)))
 else
  if (r5.1 == r3) = true then
   some (.inr ((r3,0)))
  else
   some (.inl r5.1)
noncomputable def mtenor_settle_l1 (a0:GRealm) (a1:Int) (r1:Int) (p2:Int):Option (Int × Int) :=
 Iter (fun (w:Int)=>mtenor_settle_l1_s a0 a1 r1 w) p2
noncomputable def mtenor_settle (a0:GRealm) (a1:Int) (a2:Int):Option (Int × Int) :=
 (mrealm_OrderAt a0 a1).bind fun (r1:Int) =>
 (mtenor_settle_l1 a0 a1 r1 a2).bind fun (r8:Int × Int) =>
 some (r8.1,r8.2)
noncomputable def mtenor_Due_j1 (a0:GRealm) (a1:GBill) (a2:Int) (a3:Int):Option (Unit ⊕ Int) :=
 if (a2 != (-1)) = true then
  (mtenor_isDay a2).bind fun (r5:Bool) =>
  if (!(r5)) = true then
   some (.inr (1))
  else
   if decide (a3 < 0) = true then
    some (.inr (1))
   else
    if decide (a3 > 20000) = true then
     some (.inr (1))
    else
     (mtenor_Sights a1.Tenor).bind fun (r6:Bool) =>
     if r6 = true then
      if (a2 == (-1)) = true then
       some (.inr (4))
      else
       some (.inl ())
     else
      some (.inl ())
 else
  if decide (a3 < 0) = true then
   some (.inr (1))
  else
   if decide (a3 > 20000) = true then
    some (.inr (1))
   else
    (mtenor_Sights a1.Tenor).bind fun (r7:Bool) =>
    if r7 = true then
     if (a2 == (-1)) = true then
      some (.inr (4))
     else
      some (.inl ())
    else
     some (.inl ())
noncomputable def mtenor_Due_j2 (a0:GRealm) (a1:GBill) (a2:Int) (a3:Int):Option (Unit ⊕ Int) :=
 if decide (a1.Tenor.Kind < 0) = true then
  some (.inr (1))
 else
  if decide (a1.Tenor.Kind ≥ 5) = true then
   some (.inr (1))
  else
   if decide (a1.Tenor.Unit < 0) = true then
    some (.inr (1))
   else
    if decide (a1.Tenor.Unit ≥ 2) = true then
     some (.inr (1))
    else
     (mtenor_Due_j1 a0 a1 a2 a3).bind fun (r9:Unit ⊕ Int)=>Sum.elim (fun z10 =>
     some (.inl ())) (fun z11 =>
     some (.inr (z11))) r9
noncomputable def mtenor_Due (a0:GRealm) (a1:GBill) (a2:Int) (a3:Int):Option (Int × Int) :=
 (mrealm_Check a0).bind fun (r1:Int) =>
 if (r1 != 0) = true then
  some (0,1)
 else
  (mtenor_isCity a0 a1.City).bind fun (r2:Bool) =>
  if (!(r2)) = true then
   some (0,1)
  else
   (mtenor_isCity a0 a1.Pay).bind fun (r3:Bool) =>
   if (!(r3)) = true then
    some (0,1)
   else
    (mtenor_isDay a1.Day).bind fun (r4:Bool) =>
    if (!(r4)) = true then
     some (0,1)
    else
     (mtenor_Due_j2 a0 a1 a2 a3).bind fun (r13:Unit ⊕ Int)=>Sum.elim (fun z14 =>
     (mtenor_base a0 a1 a2).bind fun (r16:Int × Int) =>
      if (r16.2 != 0) = true then
       some (0,r16.2)
      else
       (mtenor_isDay r16.1).bind fun (r17:Bool) =>
       if (!(r17)) = true then
        some (0,3)
       else
        if decide ((IntKind.wrap .i64 (r16.1 + a3)) > 100000) = true then
         some (0,3)
        else
         (mtenor_settle a0 a1.Pay (IntKind.wrap .i64 (r16.1 + a3))).bind fun (r18:Int × Int) =>
         some (r18.1,r18.2)) (fun z15 =>
     some (0,z15)) r13
noncomputable def mtenor_Settle (a0:GRealm) (a1:Int) (a2:Int):Option (Int × Int) :=
 (mrealm_Check a0).bind fun (r1:Int) =>
 if (r1 != 0) = true then
  some (0,1)
 else
  (mtenor_isCity a0 a1).bind fun (r2:Bool) =>
  if (!(r2)) = true then
   some (0,1)
  else
   (mtenor_isDay a2).bind fun (r3:Bool) =>
   if (!(r3)) = true then
    some (0,1)
   else
    (mtenor_settle a0 a1 a2).bind fun (r4:Int × Int) =>
    some (r4.1,r4.2)
noncomputable def mallongelaw11_sane_j1 (r2:Int × Int) (r3:Int × Int) (r4:Int × Int) (r6:Int × Int) (r7:Int × Int) (p8:Bool):Option (Bool) :=
 if p8 = true then
  if (r2.1 == 6) = true then
   if (r3.1 == 9) = true then
    if (r4.1 == 6) = true then
     if (r6.1 == 31) = true then
      if (r7.1 == 16) = true then
       (mtenor_Sights (GTenor.mk 1 2 0)).bind fun (r9:Bool) =>
       if r9 = true then
        (mtenor_Sights (GTenor.mk 2 3 0)).bind fun (r10:Bool) =>
        some (!(r10))
       else
        some (false)
      else
       some (false)
     else
      some (false)
    else
     some (false)
   else
    some (false)
  else
   some (false)
 else
  some (false)
noncomputable def mallongelaw11_sane:Option (Bool) :=
 (mallongelaw11_example).bind fun (r1:GRealm) =>
 (mtenor_Due r1 (GBill.mk 0 0 0 0 0 (GTenor.mk 2 3 0) 3 0 0 0 0 0 0) (-1) 0).bind fun (r2:Int × Int) =>
 (mtenor_Due r1 (GBill.mk 0 0 0 0 0 (GTenor.mk 2 3 0) 3 0 0 0 0 0 0) (-1) 1).bind fun (r3:Int × Int) =>
 (mtenor_Due r1 (GBill.mk 0 0 0 0 0 (GTenor.mk 1 2 0) 3 0 0 0 0 0 0) 4 0).bind fun (r4:Int × Int) =>
 (mtenor_Due r1 (GBill.mk 0 0 0 0 0 (GTenor.mk 1 2 0) 3 0 0 0 0 0 0) (-1) 0).bind fun (r5:Int × Int) =>
 (mtenor_Settle r1 0 21).bind fun (r6:Int × Int) =>
 (mtenor_Settle r1 0 14).bind fun (r7:Int × Int) =>
 if (r2.2 == 0) = true then
  if (r3.2 == 0) = true then
   if (r4.2 == 0) = true then
    if (r5.2 == 4) = true then
     if (r6.2 == 0) = true then
      (mallongelaw11_sane_j1 r2 r3 r4 r6 r7 (r7.2 == 0)).bind fun (r12:Bool) =>
      some r12
     else
      (mallongelaw11_sane_j1 r2 r3 r4 r6 r7 false).bind fun (r13:Bool) =>
      some r13
    else
     (mallongelaw11_sane_j1 r2 r3 r4 r6 r7 false).bind fun (r14:Bool) =>
     some r14
   else
    (mallongelaw11_sane_j1 r2 r3 r4 r6 r7 false).bind fun (r15:Bool) =>
    some r15
  else
   (mallongelaw11_sane_j1 r2 r3 r4 r6 r7 false).bind fun (r16:Bool) =>
   some r16
 else
  (mallongelaw11_sane_j1 r2 r3 r4 r6 r7 false).bind fun (r17:Bool) =>
  some r17
noncomputable def mallongeref09_Few_l1_s (a0:GRealm) (p1:Int):Option ((Int) ⊕ (Unit ⊕ Unit)) :=
 if decide (p1 < (a0.Cities.length:Int)) = true then
  if decide (p1 < 50) = true then
   (at? a0.Cities p1).bind fun (x2:GCity) =>
   if decide ((x2.Feasts.length:Int) > 70) = true then
    some (.inr (.inr (())))
   else
    (at? a0.Cities p1).bind fun (x3:GCity) =>
    if decide ((x3.Shut.length:Int) > 210) = true then
     some (.inr (.inr (())))
    else
     (at? a0.Cities p1).bind fun (x4:GCity) =>
     if decide ((x4.Rest.length:Int) > 8) = true then
      some (.inr (.inr (())))
     else
      some (.inl (IntKind.wrap .i64 (p1 + 1)))
  else
   some (.inr (.inl ()))
 else
  some (.inr (.inl ()))
noncomputable def mallongeref09_Few_l1 (a0:GRealm) (p1:Int):Option (Unit ⊕ Unit) :=
 Iter (fun (w:Int)=>mallongeref09_Few_l1_s a0 w) p1
noncomputable def mallongeref09_Few_l2_s (a0:GRealm) (p8:Int):Option ((Int) ⊕ (Unit ⊕ Unit)) :=
 if decide (p8 < (a0.Orders.length:Int)) = true then
  if decide (p8 < 50) = true then
   (at? a0.Orders p8).bind fun (x9:GOrder) =>
   if decide ((x9.Choices.length:Int) > 40) = true then
    some (.inr (.inr (())))
   else
    (at? a0.Orders p8).bind fun (x10:GOrder) =>
    if decide ((x10.Rules.length:Int) > 40) = true then
     some (.inr (.inr (())))
    else
     some (.inl (IntKind.wrap .i64 (p8 + 1)))
  else
   some (.inr (.inl ()))
 else
  some (.inr (.inl ()))
noncomputable def mallongeref09_Few_l2 (a0:GRealm) (p8:Int):Option (Unit ⊕ Unit) :=
 Iter (fun (w:Int)=>mallongeref09_Few_l2_s a0 w) p8
noncomputable def mallongeref09_Few (a0:GRealm):Option (Bool) :=
 (mallongeref09_Few_l1 a0 0).bind fun (r5:Unit ⊕ Unit)=>Sum.elim (fun z6 =>
 (mallongeref09_Few_l2 a0 0).bind fun (r11:Unit ⊕ Unit)=>Sum.elim (fun z12 =>
  if decide ((a0.Currencies.length:Int) < 50) = true then
    if decide ((a0.Cities.length:Int) < 50) = true then
     if decide ((a0.Groups.length:Int) < 50) = true then
      if decide ((a0.Firms.length:Int) < 210) = true then
       if decide ((a0.Orders.length:Int) < 50) = true then
        if decide ((a0.Usances.length:Int) < 110) = true then
         if decide ((a0.Rates.length:Int) < 110) = true then
          some (decide ((a0.Halts.length:Int) < 50))
         else
          some false
        else
         some false
       else
        some false
      else
       some false
     else
      some false
    else
     some false
   else
    some false) (fun z13 =>
  some false) r11) (fun z7 =>
 some false) r5
noncomputable def mallongelaw11_TenorLater_j1 (a0:GRealm) (a1:GBill) (r1:Bool) (r4:Int × Int):Option (Bool) :=
 if (r4.2 != 0) = true then
  if r1 = true then
   some (r4.1 == 0)
  else
   some (false)
 else
  (mtenor_Settle a0 a1.Pay r4.1).bind fun (r6:Int × Int) =>
  if r1 = true then
   if (r6.2 == 0) = true then
    some (r6.1 == r4.1)
   else
    some (false)
  else
   some (false)
noncomputable def mallongelaw11_TenorLater (a0:GRealm) (a1:GBill) (a2:GArr2I) (a3:GArr2I):Option (Bool) :=
 (mallongelaw11_sane).bind fun (r1:Bool) =>
 (mallongeref09_Few a0).bind fun (r2:Bool) =>
 if (!(r2)) = true then
  some r1
 else
  (mrealm_Check a0).bind fun (r3:Int) =>
  if (r3 != 0) = true then
   some r1
  else
   (mtenor_Due a0 a1 (if a2.e1 < a2.e0 then a2.e1 else a2.e0) (if a3.e1 < a3.e0 then a3.e1 else a3.e0)).bind fun (r4:Int × Int) =>
   (mtenor_Due a0 a1 (if a2.e1 > a2.e0 then a2.e1 else a2.e0) (if a3.e1 > a3.e0 then a3.e1 else a3.e0)).bind fun (r5:Int × Int) =>
   if (r4.2 == 0) = true then
    if (r5.2 == 0) = true then
     if decide (r4.1 > r5.1) = true then
      some false
     else
      (mallongelaw11_TenorLater_j1 a0 a1 r1 r4).bind fun (r8:Bool) =>
      some r8
    else
     (mallongelaw11_TenorLater_j1 a0 a1 r1 r4).bind fun (r9:Bool) =>
     some r9
   else
    (mallongelaw11_TenorLater_j1 a0 a1 r1 r4).bind fun (r10:Bool) =>
    some r10
end Go.Proofs.Ytibhbfhelfjloaa
