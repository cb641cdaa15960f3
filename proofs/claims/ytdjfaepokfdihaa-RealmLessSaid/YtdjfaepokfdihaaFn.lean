/- What the functions compute, as plain definitions. Printed by a program. -/
import Derived.Test.YtdjfaepokfdihaaTab
set_option linter.unusedVariables false
set_option linter.unusedSimpArgs false
namespace Go.Proofs.Ytdjfaepokfdihaa
open Vm
open Go.RowKit
noncomputable def mallongelaw09_example : Option (GRealm) :=
  some (GRealm.mk [(⟨#[102, 114, 97, 110, 99]⟩ : ByteArray)] [(GCity.mk (⟨#[76, 121, 111, 110]⟩ : ByteArray) 0 0 [5, 6] [] []), (GCity.mk (⟨#[76, 111, 110, 100, 111, 110]⟩ : ByteArray) 1 0 [6] [] [])] [(GGroup.mk 3)] [(GFirm.mk (⟨#[66, 111, 100, 109, 101, 114]⟩ : ByteArray) 0 0), (GFirm.mk (⟨#[72, 111, 112, 101]⟩ : ByteArray) 1 0)] [(GOrder.mk (⟨#[103, 101, 110, 101, 118, 97]⟩ : ByteArray) false [] []), (GOrder.mk (⟨#[108, 111, 110, 100, 111, 110]⟩ : ByteArray) false [] [])] [(GUsance.mk 0 1 60)] [] [])
noncomputable def mrealm_Usance_l1_s (a0 : GRealm) (a1 : Int) (a2 : Int) (p1 : Int) : Option ((Int) ⊕ (Unit ⊕ Int)) :=
  if decide (p1 < (a0.Usances.length : Int)) = true then
    (at? a0.Usances p1).bind fun (x2 : GUsance) =>
    if (x2.From == a1) = true then
      if (x2.To == a2) = true then
        some (.inr (.inr (x2.Days)))
      else
        some (.inl (IntKind.wrap .i64 (p1 + 1)))
    else
      some (.inl (IntKind.wrap .i64 (p1 + 1)))
  else
    some (.inr (.inl ()))
noncomputable def mrealm_Usance_l1 (a0 : GRealm) (a1 : Int) (a2 : Int) (p1 : Int) : Option (Unit ⊕ Int) :=
  Iter (fun (w : Int) => mrealm_Usance_l1_s a0 a1 a2 w) p1
noncomputable def mrealm_Usance (a0 : GRealm) (a1 : Int) (a2 : Int) : Option (Int × Int) :=
  (mrealm_Usance_l1 a0 a1 a2 0).bind fun (r4 : Unit ⊕ Int) => Sum.elim (fun z5 =>
  some (0, 4)) (fun z6 =>
  some (z6, 0)) r4
noncomputable def mrealm_names_l1_s (a0 : GRealm) (p1 : Int) (p2 : List ByteArray) : Option ((Int × (List ByteArray)) ⊕ ((List ByteArray))) :=
  if decide (p1 < (a0.Cities.length : Int)) = true then
    (at? a0.Cities p1).bind fun (x3 : GCity) =>
    if (p2.length + 1) * 16 ≤ 140737488355328 then
      some (.inl (IntKind.wrap .i64 (p1 + 1), p2 ++ [x3.Name]))
    else none
  else
    some (.inr (p2))
noncomputable def mrealm_names_l1 (a0 : GRealm) (p1 : Int) (p2 : List ByteArray) : Option ((List ByteArray)) :=
  Iter (fun (w : Int × (List ByteArray)) => mrealm_names_l1_s a0 w.1 w.2) (p1, p2)
noncomputable def mrealm_names_l2_s (a0 : GRealm) (r5 : (List ByteArray)) (p6 : Int) (p7 : List ByteArray) : Option ((Int × (List ByteArray)) ⊕ ((List ByteArray))) :=
  if decide (p6 < (a0.Firms.length : Int)) = true then
    (at? a0.Firms p6).bind fun (x8 : GFirm) =>
    if (p7.length + 1) * 16 ≤ 140737488355328 then
      some (.inl (IntKind.wrap .i64 (p6 + 1), p7 ++ [x8.Name]))
    else none
  else
    some (.inr (p7))
noncomputable def mrealm_names_l2 (a0 : GRealm) (r5 : (List ByteArray)) (p6 : Int) (p7 : List ByteArray) : Option ((List ByteArray)) :=
  Iter (fun (w : Int × (List ByteArray)) => mrealm_names_l2_s a0 r5 w.1 w.2) (p6, p7)
noncomputable def mrealm_names_l3_s (a0 : GRealm) (r10 : (List ByteArray)) (r5 : (List ByteArray)) (p11 : Int) (p12 : List ByteArray) : Option ((Int × (List ByteArray)) ⊕ ((List ByteArray))) :=
  if decide (p11 < (a0.Orders.length : Int)) = true then
    (at? a0.Orders p11).bind fun (x13 : GOrder) =>
    if (p12.length + 1) * 16 ≤ 140737488355328 then
      some (.inl (IntKind.wrap .i64 (p11 + 1), p12 ++ [x13.Name]))
    else none
  else
    some (.inr (p12))
noncomputable def mrealm_names_l3 (a0 : GRealm) (r10 : (List ByteArray)) (r5 : (List ByteArray)) (p11 : Int) (p12 : List ByteArray) : Option ((List ByteArray)) :=
  Iter (fun (w : Int × (List ByteArray)) => mrealm_names_l3_s a0 r10 r5 w.1 w.2) (p11, p12)
noncomputable def mrealm_names (a0 : GRealm) : Option ((List ByteArray) × (List ByteArray) × (List ByteArray)) :=
  (mrealm_names_l1 a0 0 []).bind fun (r5 : (List ByteArray)) =>
  (mrealm_names_l2 a0 r5 0 []).bind fun (r10 : (List ByteArray)) =>
  (mrealm_names_l3 a0 r10 r5 0 []).bind fun (r15 : (List ByteArray)) =>
  some (r5, r10, r15)
noncomputable def mrealm_isName_j1 (a0 : ByteArray) (p1 : Int) (x2 : Int) (p3 : Bool) : Option (Unit ⊕ Unit) :=
  if (!(p3)) = true then
    if (p1 == 0) = true then
      some (.inr (()))
    else
      if (x2 != 95) = true then
        if decide (x2 < 48) = true then
          some (.inr (()))
        else
          if decide (x2 > 57) = true then
            some (.inr (()))
          else
            some (.inl ())
      else
        some (.inl ())
  else
    some (.inl ())
noncomputable def mrealm_isName_l2_s (a0 : ByteArray) (p1 : Int) : Option ((Int) ⊕ (Unit ⊕ Unit)) :=
  if decide (p1 < ((bytesL a0).length : Int)) = true then
    (at? (bytesL a0) p1).bind fun (x2 : Int) =>
    if decide (x2 ≥ 97) = true then
      if decide (x2 ≤ 122) = true then
        (mrealm_isName_j1 a0 p1 x2 true).bind fun (r4 : Unit ⊕ Unit) => Sum.elim (fun z5 =>
        some (.inl (IntKind.wrap .i64 (p1 + 1)))) (fun z6 =>
        some (.inr (.inr (())))) r4
      else
        if decide (x2 ≥ 65) = true then
          (mrealm_isName_j1 a0 p1 x2 (decide (x2 ≤ 90))).bind fun (r7 : Unit ⊕ Unit) => Sum.elim (fun z8 =>
          some (.inl (IntKind.wrap .i64 (p1 + 1)))) (fun z9 =>
          some (.inr (.inr (())))) r7
        else
          (mrealm_isName_j1 a0 p1 x2 false).bind fun (r10 : Unit ⊕ Unit) => Sum.elim (fun z11 =>
          some (.inl (IntKind.wrap .i64 (p1 + 1)))) (fun z12 =>
          some (.inr (.inr (())))) r10
    else
      if decide (x2 ≥ 65) = true then
        (mrealm_isName_j1 a0 p1 x2 (decide (x2 ≤ 90))).bind fun (r13 : Unit ⊕ Unit) => Sum.elim (fun z14 =>
        some (.inl (IntKind.wrap .i64 (p1 + 1)))) (fun z15 =>
        some (.inr (.inr (())))) r13
      else
        (mrealm_isName_j1 a0 p1 x2 false).bind fun (r16 : Unit ⊕ Unit) => Sum.elim (fun z17 =>
        some (.inl (IntKind.wrap .i64 (p1 + 1)))) (fun z18 =>
        some (.inr (.inr (())))) r16
  else
    some (.inr (.inl ()))
noncomputable def mrealm_isName_l2 (a0 : ByteArray) (p1 : Int) : Option (Unit ⊕ Unit) :=
  Iter (fun (w : Int) => mrealm_isName_l2_s a0 w) p1
noncomputable def mrealm_isName (a0 : ByteArray) : Option (Bool) :=
  if (a0.toList == ByteArray.empty.toList) = true then
    some false
  else
    if decide ((a0.size : Int) > 20) = true then
      some false
    else
      (mrealm_isName_l2 a0 0).bind fun (r19 : Unit ⊕ Unit) => Sum.elim (fun z20 =>
      some true) (fun z21 =>
      some false) r19
noncomputable def mslices_Index_string_string_l1_s (a0 : List ByteArray) (a1 : ByteArray) (p1 : Int) : Option ((Int) ⊕ (Unit ⊕ Int)) :=
  if decide (p1 < (a0.length : Int)) = true then
    (at? a0 p1).bind fun (x2 : ByteArray) =>
    if (a1.toList == x2.toList) = true then
      some (.inr (.inr (p1)))
    else
      some (.inl (IntKind.wrap .i64 (p1 + 1)))
  else
    some (.inr (.inl ()))
noncomputable def mslices_Index_string_string_l1 (a0 : List ByteArray) (a1 : ByteArray) (p1 : Int) : Option (Unit ⊕ Int) :=
  Iter (fun (w : Int) => mslices_Index_string_string_l1_s a0 a1 w) p1
noncomputable def mslices_Index_string_string (a0 : List ByteArray) (a1 : ByteArray) : Option (Int) :=
  (mslices_Index_string_string_l1 a0 a1 0).bind fun (r4 : Unit ⊕ Int) => Sum.elim (fun z5 =>
  some (-1)) (fun z6 =>
  some z6) r4
noncomputable def mslices_Contains_string_string (a0 : List ByteArray) (a1 : ByteArray) : Option (Bool) :=
  (mslices_Index_string_string a0 a1).bind fun (r1 : Int) =>
  some (decide (r1 ≥ 0))
noncomputable def mrealm_named (a0 : List ByteArray) (a1 : Int) : Option (Int) :=
  (at? a0 a1).bind fun (x1 : ByteArray) =>
  (mrealm_isName x1).bind fun (r2 : Bool) =>
  if (!(r2)) = true then
    some 2
  else
    if sliceOk a0.length 0 a1 then
      (at? a0 a1).bind fun (x3 : ByteArray) =>
      (mslices_Contains_string_string (sliceL a0 0 a1) x3).bind fun (r4 : Bool) =>
      if r4 = true then
        some 5
      else
        some 0
    else none
noncomputable def mrealm_Check_1 (a0 : Int) : Option (Bool) :=
  some true
noncomputable def mrealm_fits_s1_l1_s (a0 : List ByteArray) (p1 : Int) : Option ((Int) ⊕ (Unit ⊕ Int)) :=
  if decide (p1 < (a0.length : Int)) = true then
    (mrealm_named a0 p1).bind fun (r2 : Int) =>
    if (r2 != 0) = true then
      some (.inr (.inr (r2)))
    else
      (mrealm_Check_1 p1).bind fun (r3 : Bool) =>
      if (!(r3)) = true then
        some (.inr (.inr (1)))
      else
        some (.inl (IntKind.wrap .i64 (p1 + 1)))
  else
    some (.inr (.inl ()))
noncomputable def mrealm_fits_s1_l1 (a0 : List ByteArray) (p1 : Int) : Option (Unit ⊕ Int) :=
  Iter (fun (w : Int) => mrealm_fits_s1_l1_s a0 w) p1
noncomputable def mrealm_fits_s1 (a0 : List ByteArray) (a1 : Int) : Option (Int) :=
  if decide ((a0.length : Int) > a1) = true then
    some 6
  else
    (mrealm_fits_s1_l1 a0 0).bind fun (r5 : Unit ⊕ Int) => Sum.elim (fun z6 =>
    some 0) (fun z7 =>
    some z7) r5
noncomputable def mrealm_in (a0 : Int) (a1 : Int) : Option (Bool) :=
  if decide (a0 ≥ 0) = true then
    some (decide (a0 < a1))
  else
    some false
noncomputable def mrealm_rising_l1_s (a0 : List Int) (a1 : Int) (a2 : Int) (p1 : Int) : Option ((Int) ⊕ (Unit ⊕ Unit)) :=
  if decide (p1 < (a0.length : Int)) = true then
    (at? a0 p1).bind fun (x2 : Int) =>
    if decide (x2 < a1) = true then
      some (.inr (.inr (())))
    else
      if decide (x2 > a2) = true then
        some (.inr (.inr (())))
      else
        if decide (p1 > 0) = true then
          (at? a0 (IntKind.wrap .i64 (p1 - 1))).bind fun (x3 : Int) =>
          if decide (x2 ≤ x3) = true then
            some (.inr (.inr (())))
          else
            some (.inl (IntKind.wrap .i64 (p1 + 1)))
        else
          some (.inl (IntKind.wrap .i64 (p1 + 1)))
  else
    some (.inr (.inl ()))
noncomputable def mrealm_rising_l1 (a0 : List Int) (a1 : Int) (a2 : Int) (p1 : Int) : Option (Unit ⊕ Unit) :=
  Iter (fun (w : Int) => mrealm_rising_l1_s a0 a1 a2 w) p1
noncomputable def mrealm_rising (a0 : List Int) (a1 : Int) (a2 : Int) : Option (Bool) :=
  (mrealm_rising_l1 a0 a1 a2 0).bind fun (r4 : Unit ⊕ Unit) => Sum.elim (fun z5 =>
  some true) (fun z6 =>
  some false) r4
noncomputable def mrealm_city_l1_s (a0 : GRealm) (a1 : GCity) (p1 : Int) : Option ((Int) ⊕ (Unit ⊕ Unit)) :=
  if decide (p1 < (a1.Feasts.length : Int)) = true then
    (at? a1.Feasts p1).bind fun (x2 : Int) =>
    if decide ((x2.tmod 100) < 1) = true then
      some (.inr (.inr (())))
    else
      if decide ((x2.tmod 100) > 31) = true then
        some (.inr (.inr (())))
      else
        some (.inl (IntKind.wrap .i64 (p1 + 1)))
  else
    some (.inr (.inl ()))
noncomputable def mrealm_city_l1 (a0 : GRealm) (a1 : GCity) (p1 : Int) : Option (Unit ⊕ Unit) :=
  Iter (fun (w : Int) => mrealm_city_l1_s a0 a1 w) p1
noncomputable def mrealm_city (a0 : GRealm) (a1 : GCity) : Option (Bool) :=
  (mrealm_city_l1 a0 a1 0).bind fun (r3 : Unit ⊕ Unit) => Sum.elim (fun z4 =>
  if decide ((a1.Feasts.length : Int) > 60) = true then
      some false
    else
      if decide ((a1.Shut.length : Int) > 200) = true then
        some false
      else
        (mrealm_in a1.Order (a0.Orders.length : Int)).bind fun (r6 : Bool) =>
        if (!(r6)) = true then
          some false
        else
          (mrealm_in a1.Currency (a0.Currencies.length : Int)).bind fun (r7 : Bool) =>
          if (!(r7)) = true then
            some false
          else
            (mrealm_rising a1.Rest 0 6).bind fun (r8 : Bool) =>
            if r8 = true then
              (mrealm_rising a1.Feasts 101 1231).bind fun (r9 : Bool) =>
              if r9 = true then
                (mrealm_rising a1.Shut 0 100000).bind fun (r10 : Bool) =>
                some r10
              else
                some false
            else
              some false) (fun z5 =>
  some false) r3
noncomputable def mrealm_Check_2_s1 (a0 : Int) (a1 : GRealm) : Option (Bool) :=
  (at? a1.Cities a0).bind fun (x1 : GCity) =>
  (mrealm_city a1 x1).bind fun (r2 : Bool) =>
  some r2
noncomputable def mrealm_fits_s2_l1_s (a0 : List ByteArray) (a2 : GRealm) (p1 : Int) : Option ((Int) ⊕ (Unit ⊕ Int)) :=
  if decide (p1 < (a0.length : Int)) = true then
    (mrealm_named a0 p1).bind fun (r2 : Int) =>
    if (r2 != 0) = true then
      some (.inr (.inr (r2)))
    else
      (mrealm_Check_2_s1 p1 a2).bind fun (r3 : Bool) =>
      if (!(r3)) = true then
        some (.inr (.inr (1)))
      else
        some (.inl (IntKind.wrap .i64 (p1 + 1)))
  else
    some (.inr (.inl ()))
noncomputable def mrealm_fits_s2_l1 (a0 : List ByteArray) (a2 : GRealm) (p1 : Int) : Option (Unit ⊕ Int) :=
  Iter (fun (w : Int) => mrealm_fits_s2_l1_s a0 a2 w) p1
noncomputable def mrealm_fits_s2 (a0 : List ByteArray) (a1 : Int) (a2 : GRealm) : Option (Int) :=
  if decide ((a0.length : Int) > a1) = true then
    some 6
  else
    (mrealm_fits_s2_l1 a0 a2 0).bind fun (r5 : Unit ⊕ Int) => Sum.elim (fun z6 =>
    some 0) (fun z7 =>
    some z7) r5
noncomputable def mrealm_Check_3_s1 (a0 : Int) (a1 : GRealm) : Option (Bool) :=
  (at? a1.Firms a0).bind fun (x1 : GFirm) =>
  (mrealm_in x1.City (a1.Cities.length : Int)).bind fun (r2 : Bool) =>
  if r2 = true then
    (at? a1.Firms a0).bind fun (x3 : GFirm) =>
    (mrealm_in x3.Group (a1.Groups.length : Int)).bind fun (r4 : Bool) =>
    some r4
  else
    some false
noncomputable def mrealm_fits_s3_l1_s (a0 : List ByteArray) (a2 : GRealm) (p1 : Int) : Option ((Int) ⊕ (Unit ⊕ Int)) :=
  if decide (p1 < (a0.length : Int)) = true then
    (mrealm_named a0 p1).bind fun (r2 : Int) =>
    if (r2 != 0) = true then
      some (.inr (.inr (r2)))
    else
      (mrealm_Check_3_s1 p1 a2).bind fun (r3 : Bool) =>
      if (!(r3)) = true then
        some (.inr (.inr (1)))
      else
        some (.inl (IntKind.wrap .i64 (p1 + 1)))
  else
    some (.inr (.inl ()))
noncomputable def mrealm_fits_s3_l1 (a0 : List ByteArray) (a2 : GRealm) (p1 : Int) : Option (Unit ⊕ Int) :=
  Iter (fun (w : Int) => mrealm_fits_s3_l1_s a0 a2 w) p1
noncomputable def mrealm_fits_s3 (a0 : List ByteArray) (a1 : Int) (a2 : GRealm) : Option (Int) :=
  if decide ((a0.length : Int) > a1) = true then
    some 6
  else
    (mrealm_fits_s3_l1 a0 a2 0).bind fun (r5 : Unit ⊕ Int) => Sum.elim (fun z6 =>
    some 0) (fun z7 =>
    some z7) r5
noncomputable def mrealm_order_l1_s (a0 : GOrder) (p1 : Int) (p2 : List Int) : Option ((Int × (List Int)) ⊕ (((List Int)) ⊕ Unit)) :=
  if decide (p1 < (a0.Choices.length : Int)) = true then
    (at? a0.Choices p1).bind fun (x3 : GChoice) =>
    if (p2.length + 1) * 8 ≤ 140737488355328 then
      (mrealm_in x3.By 5).bind fun (r4 : Bool) =>
      if (!(r4)) = true then
        some (.inr (.inr (())))
      else
        some (.inl (IntKind.wrap .i64 (p1 + 1), p2 ++ [x3.Ask]))
    else none
  else
    some (.inr (.inl p2))
noncomputable def mrealm_order_l1 (a0 : GOrder) (p1 : Int) (p2 : List Int) : Option (((List Int)) ⊕ Unit) :=
  Iter (fun (w : Int × (List Int)) => mrealm_order_l1_s a0 w.1 w.2) (p1, p2)
noncomputable def mrealm_order_l2_s (a0 : GOrder) (z7 : (List Int)) (p9 : Int) (p10 : List Int) : Option ((Int × (List Int)) ⊕ ((List Int))) :=
  if decide (p9 < (a0.Rules.length : Int)) = true then
    (at? a0.Rules p9).bind fun (x11 : GRule) =>
    if (p10.length + 1) * 8 ≤ 140737488355328 then
      some (.inl (IntKind.wrap .i64 (p9 + 1), p10 ++ [x11.Ask]))
    else none
  else
    some (.inr (p10))
noncomputable def mrealm_order_l2 (a0 : GOrder) (z7 : (List Int)) (p9 : Int) (p10 : List Int) : Option ((List Int)) :=
  Iter (fun (w : Int × (List Int)) => mrealm_order_l2_s a0 z7 w.1 w.2) (p9, p10)
noncomputable def mrealm_order (a0 : GOrder) : Option (Bool) :=
  (mrealm_order_l1 a0 0 []).bind fun (r6 : ((List Int)) ⊕ Unit) => Sum.elim (fun z7 =>
  (mrealm_order_l2 a0 z7 0 []).bind fun (r13 : (List Int)) =>
    (mrealm_rising z7 0 21).bind fun (r14 : Bool) =>
    if r14 = true then
      (mrealm_rising r13 0 21).bind fun (r15 : Bool) =>
      some r15
    else
      some false) (fun z8 =>
  some false) r6
noncomputable def mrealm_Check_4_s1 (a0 : Int) (a1 : GRealm) : Option (Bool) :=
  (at? a1.Orders a0).bind fun (x1 : GOrder) =>
  (mrealm_order x1).bind fun (r2 : Bool) =>
  some r2
noncomputable def mrealm_fits_s4_l1_s (a0 : List ByteArray) (a2 : GRealm) (p1 : Int) : Option ((Int) ⊕ (Unit ⊕ Int)) :=
  if decide (p1 < (a0.length : Int)) = true then
    (mrealm_named a0 p1).bind fun (r2 : Int) =>
    if (r2 != 0) = true then
      some (.inr (.inr (r2)))
    else
      (mrealm_Check_4_s1 p1 a2).bind fun (r3 : Bool) =>
      if (!(r3)) = true then
        some (.inr (.inr (1)))
      else
        some (.inl (IntKind.wrap .i64 (p1 + 1)))
  else
    some (.inr (.inl ()))
noncomputable def mrealm_fits_s4_l1 (a0 : List ByteArray) (a2 : GRealm) (p1 : Int) : Option (Unit ⊕ Int) :=
  Iter (fun (w : Int) => mrealm_fits_s4_l1_s a0 a2 w) p1
noncomputable def mrealm_fits_s4 (a0 : List ByteArray) (a1 : Int) (a2 : GRealm) : Option (Int) :=
  if decide ((a0.length : Int) > a1) = true then
    some 6
  else
    (mrealm_fits_s4_l1 a0 a2 0).bind fun (r5 : Unit ⊕ Int) => Sum.elim (fun z6 =>
    some 0) (fun z7 =>
    some z7) r5
noncomputable def mrealm_usances_l1_s (a0 : GRealm) (p1 : Int) (x2 : GUsance) (p5 : Int) : Option ((Int) ⊕ (Unit ⊕ Unit)) :=
  if decide (p5 < ((sliceL a0.Usances 0 p1).length : Int)) = true then
    (at? (sliceL a0.Usances 0 p1) p5).bind fun (x6 : GUsance) =>
    if (x6.From == x2.From) = true then
      if (x6.To == x2.To) = true then
        some (.inr (.inr (())))
      else
        some (.inl (IntKind.wrap .i64 (p5 + 1)))
    else
      some (.inl (IntKind.wrap .i64 (p5 + 1)))
  else
    some (.inr (.inl ()))
noncomputable def mrealm_usances_l1 (a0 : GRealm) (p1 : Int) (x2 : GUsance) (p5 : Int) : Option (Unit ⊕ Unit) :=
  Iter (fun (w : Int) => mrealm_usances_l1_s a0 p1 x2 w) p5
noncomputable def mrealm_usances_l2_s (a0 : GRealm) (p1 : Int) : Option ((Int) ⊕ (Unit ⊕ Int)) :=
  if decide (p1 < (a0.Usances.length : Int)) = true then
    (at? a0.Usances p1).bind fun (x2 : GUsance) =>
    (mrealm_in x2.From (a0.Cities.length : Int)).bind fun (r3 : Bool) =>
    if (!(r3)) = true then
      some (.inr (.inr (1)))
    else
      (mrealm_in x2.To (a0.Cities.length : Int)).bind fun (r4 : Bool) =>
      if (!(r4)) = true then
        some (.inr (.inr (1)))
      else
        if decide (x2.Days < 1) = true then
          some (.inr (.inr (1)))
        else
          if decide (x2.Days > 20000) = true then
            some (.inr (.inr (1)))
          else
            if sliceOk a0.Usances.length 0 p1 then
              (mrealm_usances_l1 a0 p1 x2 0).bind fun (r7 : Unit ⊕ Unit) => Sum.elim (fun z8 =>
              some (.inl (IntKind.wrap .i64 (p1 + 1)))) (fun z9 =>
              some (.inr (.inr (5)))) r7
            else none
  else
    some (.inr (.inl ()))
noncomputable def mrealm_usances_l2 (a0 : GRealm) (p1 : Int) : Option (Unit ⊕ Int) :=
  Iter (fun (w : Int) => mrealm_usances_l2_s a0 w) p1
noncomputable def mrealm_usances (a0 : GRealm) : Option (Int) :=
  if decide ((a0.Usances.length : Int) > 100) = true then
    some 6
  else
    (mrealm_usances_l2 a0 0).bind fun (r11 : Unit ⊕ Int) => Sum.elim (fun z12 =>
    some 0) (fun z13 =>
    some z13) r11
noncomputable def mrealm_rest_l1_s (a0 : GRealm) (p1 : Int) : Option ((Int) ⊕ (Unit ⊕ Unit)) :=
  if decide (p1 < (a0.Rates.length : Int)) = true then
    (at? a0.Rates p1).bind fun (x2 : GRate) =>
    (mrealm_in x2.From (a0.Currencies.length : Int)).bind fun (r3 : Bool) =>
    if (!(r3)) = true then
      some (.inr (.inr (())))
    else
      (mrealm_in x2.To (a0.Currencies.length : Int)).bind fun (r4 : Bool) =>
      if (!(r4)) = true then
        some (.inr (.inr (())))
      else
        if (x2.From == x2.To) = true then
          some (.inr (.inr (())))
        else
          (mrealm_in (IntKind.wrap .i64 (x2.Num - 1)) 1073741824).bind fun (r5 : Bool) =>
          if (!(r5)) = true then
            some (.inr (.inr (())))
          else
            (mrealm_in (IntKind.wrap .i64 (x2.Den - 1)) 1073741824).bind fun (r6 : Bool) =>
            if (!(r6)) = true then
              some (.inr (.inr (())))
            else
              (mrealm_in x2.Since 100001).bind fun (r7 : Bool) =>
              if (!(r7)) = true then
                some (.inr (.inr (())))
              else
                some (.inl (IntKind.wrap .i64 (p1 + 1)))
  else
    some (.inr (.inl ()))
noncomputable def mrealm_rest_l1 (a0 : GRealm) (p1 : Int) : Option (Unit ⊕ Unit) :=
  Iter (fun (w : Int) => mrealm_rest_l1_s a0 w) p1
noncomputable def mrealm_rest_l2_s (a0 : GRealm) (p11 : Int) : Option ((Int) ⊕ (Unit ⊕ Unit)) :=
  if decide (p11 < (a0.Halts.length : Int)) = true then
    (at? a0.Halts p11).bind fun (x12 : GHalt) =>
    (mrealm_in x12.Order (a0.Orders.length : Int)).bind fun (r13 : Bool) =>
    if (!(r13)) = true then
      some (.inr (.inr (())))
    else
      if decide (x12.From < 0) = true then
        some (.inr (.inr (())))
      else
        if decide (x12.From > x12.To) = true then
          some (.inr (.inr (())))
        else
          if decide (x12.To > 100000) = true then
            some (.inr (.inr (())))
          else
            some (.inl (IntKind.wrap .i64 (p11 + 1)))
  else
    some (.inr (.inl ()))
noncomputable def mrealm_rest_l2 (a0 : GRealm) (p11 : Int) : Option (Unit ⊕ Unit) :=
  Iter (fun (w : Int) => mrealm_rest_l2_s a0 w) p11
noncomputable def mrealm_rest (a0 : GRealm) : Option (Int) :=
  if decide ((a0.Rates.length : Int) > 100) = true then
    some 6
  else
    (mrealm_rest_l1 a0 0).bind fun (r8 : Unit ⊕ Unit) => Sum.elim (fun z9 =>
    if decide ((a0.Halts.length : Int) > 20) = true then
        some 6
      else
        (mrealm_rest_l2 a0 0).bind fun (r14 : Unit ⊕ Unit) => Sum.elim (fun z15 =>
        some 0) (fun z16 =>
        some 1) r14) (fun z10 =>
    some 1) r8
noncomputable def mrealm_Check_l1_s (a0 : GRealm) (r1 : (List ByteArray) × (List ByteArray) × (List ByteArray)) (p4 : Int) : Option ((Int) ⊕ (Unit ⊕ Unit)) :=
  if decide (p4 < (a0.Groups.length : Int)) = true then
    (at? a0.Groups p4).bind fun (x5 : GGroup) =>
    (mrealm_in x5.Grade 10).bind fun (r6 : Bool) =>
    if (!(r6)) = true then
      some (.inr (.inr (())))
    else
      some (.inl (IntKind.wrap .i64 (p4 + 1)))
  else
    some (.inr (.inl ()))
noncomputable def mrealm_Check_l1 (a0 : GRealm) (r1 : (List ByteArray) × (List ByteArray) × (List ByteArray)) (p4 : Int) : Option (Unit ⊕ Unit) :=
  Iter (fun (w : Int) => mrealm_Check_l1_s a0 r1 w) p4
noncomputable def mrealm_Check (a0 : GRealm) : Option (Int) :=
  (mrealm_names a0).bind fun (r1 : (List ByteArray) × (List ByteArray) × (List ByteArray)) =>
  (mrealm_fits_s1 a0.Currencies 8).bind fun (r2 : Int) =>
  if (r2 != 0) = true then
    some r2
  else
    (mrealm_fits_s2 r1.1 40 a0).bind fun (r3 : Int) =>
    if (r3 != 0) = true then
      some r3
    else
      if decide ((a0.Groups.length : Int) > 20) = true then
        some 6
      else
        (mrealm_Check_l1 a0 r1 0).bind fun (r7 : Unit ⊕ Unit) => Sum.elim (fun z8 =>
        (mrealm_fits_s3 r1.2.1 200 a0).bind fun (r10 : Int) =>
          if (r10 != 0) = true then
            some r10
          else
            (mrealm_fits_s4 r1.2.2 20 a0).bind fun (r11 : Int) =>
            if (r11 != 0) = true then
              some r11
            else
              (mrealm_usances a0).bind fun (r12 : Int) =>
              if (r12 != 0) = true then
                some r12
              else
                (mrealm_rest a0).bind fun (r13 : Int) =>
                some r13) (fun z9 =>
        some 1) r7
noncomputable def mrealm_OrderAt (a0 : GRealm) (a1 : Int) : Option (Int) :=
  (mrealm_in a1 (a0.Cities.length : Int)).bind fun (r1 : Bool) =>
  if (!(r1)) = true then
    some (-1)
  else
    (at? a0.Cities a1).bind fun (x2 : GCity) =>
    some x2.Order
noncomputable def mrealm_Members_l1_s (a0 : GRealm) (a1 : Int) (p1 : Int) (p2 : List Int) : Option ((Int × (List Int)) ⊕ ((List Int))) :=
  if decide (p1 < (a0.Firms.length : Int)) = true then
    (at? a0.Firms p1).bind fun (x3 : GFirm) =>
    if (x3.Group == a1) = true then
      if (p2.length + 1) * 8 ≤ 140737488355328 then
        some (.inl (IntKind.wrap .i64 (p1 + 1), p2 ++ [p1]))
      else none
    else
      some (.inl (IntKind.wrap .i64 (p1 + 1), p2))
  else
    some (.inr (p2))
noncomputable def mrealm_Members_l1 (a0 : GRealm) (a1 : Int) (p1 : Int) (p2 : List Int) : Option ((List Int)) :=
  Iter (fun (w : Int × (List Int)) => mrealm_Members_l1_s a0 a1 w.1 w.2) (p1, p2)
noncomputable def mrealm_Members (a0 : GRealm) (a1 : Int) : Option ((List Int)) :=
  (mrealm_Members_l1 a0 a1 0 []).bind fun (r5 : (List Int)) =>
  some r5
noncomputable def mallongeref09_SameInts_l1_s (a0 : List Int) (a1 : List Int) (p1 : Int) : Option ((Int) ⊕ (Unit ⊕ Unit)) :=
  if decide (p1 < (a0.length : Int)) = true then
    (at? a0 p1).bind fun (x2 : Int) =>
    (at? a1 p1).bind fun (x3 : Int) =>
    if (x2 != x3) = true then
      some (.inr (.inr (())))
    else
      some (.inl (IntKind.wrap .i64 (p1 + 1)))
  else
    some (.inr (.inl ()))
noncomputable def mallongeref09_SameInts_l1 (a0 : List Int) (a1 : List Int) (p1 : Int) : Option (Unit ⊕ Unit) :=
  Iter (fun (w : Int) => mallongeref09_SameInts_l1_s a0 a1 w) p1
noncomputable def mallongeref09_SameInts (a0 : List Int) (a1 : List Int) : Option (Bool) :=
  if ((a0.length : Int) != (a1.length : Int)) = true then
    some false
  else
    (mallongeref09_SameInts_l1 a0 a1 0).bind fun (r4 : Unit ⊕ Unit) => Sum.elim (fun z5 =>
    some true) (fun z6 =>
    some false) r4
noncomputable def mrealm_Grade (a0 : GRealm) (a1 : Int) : Option (Int) :=
  (mrealm_in a1 (a0.Firms.length : Int)).bind fun (r1 : Bool) =>
  if (!(r1)) = true then
    some (-1)
  else
    (at? a0.Firms a1).bind fun (x2 : GFirm) =>
    (mrealm_in x2.Group (a0.Groups.length : Int)).bind fun (r3 : Bool) =>
    if (!(r3)) = true then
      some (-1)
    else
      (at? a0.Firms a1).bind fun (x4 : GFirm) =>
      (at? a0.Groups x4.Group).bind fun (x5 : GGroup) =>
      some x5.Grade
noncomputable def mrealm_Firm_1_s1 (a0 : GFirm) (a1 : ByteArray) : Option (Bool) :=
  some (a0.Name.toList == a1.toList)
noncomputable def mslices_IndexFunc_api_Firm_api_Firm_s1_l1_s (a0 : List GFirm) (a1 : ByteArray) (p1 : Int) : Option ((Int) ⊕ (Unit ⊕ Int)) :=
  if decide (p1 < (a0.length : Int)) = true then
    (at? a0 p1).bind fun (x2 : GFirm) =>
    (mrealm_Firm_1_s1 x2 a1).bind fun (r3 : Bool) =>
    if r3 = true then
      some (.inr (.inr (p1)))
    else
      some (.inl (IntKind.wrap .i64 (p1 + 1)))
  else
    some (.inr (.inl ()))
noncomputable def mslices_IndexFunc_api_Firm_api_Firm_s1_l1 (a0 : List GFirm) (a1 : ByteArray) (p1 : Int) : Option (Unit ⊕ Int) :=
  Iter (fun (w : Int) => mslices_IndexFunc_api_Firm_api_Firm_s1_l1_s a0 a1 w) p1
noncomputable def mslices_IndexFunc_api_Firm_api_Firm_s1 (a0 : List GFirm) (a1 : ByteArray) : Option (Int) :=
  (mslices_IndexFunc_api_Firm_api_Firm_s1_l1 a0 a1 0).bind fun (r5 : Unit ⊕ Int) => Sum.elim (fun z6 =>
  some (-1)) (fun z7 =>
  some z7) r5
noncomputable def mrealm_Firm (a0 : GRealm) (a1 : ByteArray) : Option (Int) :=
  (mslices_IndexFunc_api_Firm_api_Firm_s1 a0.Firms a1).bind fun (r1 : Int) =>
  some r1
noncomputable def mrealm_City_1_s1 (a0 : GCity) (a1 : ByteArray) : Option (Bool) :=
  some (a0.Name.toList == a1.toList)
noncomputable def mslices_IndexFunc_api_City_api_City_s1_l1_s (a0 : List GCity) (a1 : ByteArray) (p1 : Int) : Option ((Int) ⊕ (Unit ⊕ Int)) :=
  if decide (p1 < (a0.length : Int)) = true then
    (at? a0 p1).bind fun (x2 : GCity) =>
    (mrealm_City_1_s1 x2 a1).bind fun (r3 : Bool) =>
    if r3 = true then
      some (.inr (.inr (p1)))
    else
      some (.inl (IntKind.wrap .i64 (p1 + 1)))
  else
    some (.inr (.inl ()))
noncomputable def mslices_IndexFunc_api_City_api_City_s1_l1 (a0 : List GCity) (a1 : ByteArray) (p1 : Int) : Option (Unit ⊕ Int) :=
  Iter (fun (w : Int) => mslices_IndexFunc_api_City_api_City_s1_l1_s a0 a1 w) p1
noncomputable def mslices_IndexFunc_api_City_api_City_s1 (a0 : List GCity) (a1 : ByteArray) : Option (Int) :=
  (mslices_IndexFunc_api_City_api_City_s1_l1 a0 a1 0).bind fun (r5 : Unit ⊕ Int) => Sum.elim (fun z6 =>
  some (-1)) (fun z7 =>
  some z7) r5
noncomputable def mrealm_City (a0 : GRealm) (a1 : ByteArray) : Option (Int) :=
  (mslices_IndexFunc_api_City_api_City_s1 a0.Cities a1).bind fun (r1 : Int) =>
  some r1
noncomputable def mallongelaw09_sane : Option (Bool) :=
  (mallongelaw09_example).bind fun (r1 : GRealm) =>
  (mallongelaw09_example).bind fun (r2 : GRealm) =>
  if 0 ≤ 1 ∧ 1 < r2.Firms.length then
    (r2.Firms[1]?).bind fun (x3 : GFirm) =>
    (mallongelaw09_example).bind fun (r4 : GRealm) =>
    if 0 ≤ 1 ∧ 1 < r4.Firms.length then
      (r4.Firms[1]?).bind fun (x5 : GFirm) =>
      (mallongelaw09_example).bind fun (r6 : GRealm) =>
      if 0 ≤ 0 ∧ 0 < r6.Cities.length then
        (r6.Cities[0]?).bind fun (x7 : GCity) =>
        (mrealm_Usance r1 0 1).bind fun (r8 : Int × Int) =>
        (mrealm_Usance r1 1 0).bind fun (r9 : Int × Int) =>
        (mrealm_Check r1).bind fun (r10 : Int) =>
        if (r10 != 0) = true then
          some false
        else
          (mrealm_Check (GRealm.mk r2.Currencies r2.Cities r2.Groups (r2.Firms.set 1 (GFirm.mk (⟨#[66, 111, 100, 109, 101, 114]⟩ : ByteArray) x3.City x3.Group)) r2.Orders r2.Usances r2.Rates r2.Halts)).bind fun (r11 : Int) =>
          if (r11 != 5) = true then
            some false
          else
            (mrealm_Check (GRealm.mk r4.Currencies r4.Cities r4.Groups (r4.Firms.set 1 (GFirm.mk (⟨#[50, 110, 100]⟩ : ByteArray) x5.City x5.Group)) r4.Orders r4.Usances r4.Rates r4.Halts)).bind fun (r12 : Int) =>
            if (r12 != 2) = true then
              some false
            else
              (mrealm_Check (GRealm.mk r6.Currencies (r6.Cities.set 0 (GCity.mk x7.Name x7.Order x7.Currency [6, 5] x7.Feasts x7.Shut)) r6.Groups r6.Firms r6.Orders r6.Usances r6.Rates r6.Halts)).bind fun (r13 : Int) =>
              if (r13 != 1) = true then
                some false
              else
                if (r8.1 != 60) = true then
                  some false
                else
                  if (r8.2 != 0) = true then
                    some false
                  else
                    if (r9.2 != 4) = true then
                      some false
                    else
                      (mrealm_OrderAt r1 1).bind fun (r14 : Int) =>
                      if (r14 == 1) = true then
                        (mrealm_OrderAt r1 2).bind fun (r15 : Int) =>
                        if (r15 == (-1)) = true then
                          (mrealm_Members r1 0).bind fun (r16 : (List Int)) =>
                          (mallongeref09_SameInts r16 [0, 1]).bind fun (r17 : Bool) =>
                          if r17 = true then
                            (mrealm_Grade r1 1).bind fun (r18 : Int) =>
                            if (r18 == 3) = true then
                              (mrealm_Firm r1 (⟨#[72, 111, 112, 101]⟩ : ByteArray)).bind fun (r19 : Int) =>
                              if (r19 == 1) = true then
                                (mrealm_City r1 (⟨#[72, 111, 112, 101]⟩ : ByteArray)).bind fun (r20 : Int) =>
                                some (r20 == (-1))
                              else
                                some false
                            else
                              some false
                          else
                            some false
                        else
                          some false
                      else
                        some false
      else none
    else none
  else none
noncomputable def mallongeref09_Few_l1_s (a0 : GRealm) (p1 : Int) : Option ((Int) ⊕ (Unit ⊕ Unit)) :=
  if decide (p1 < (a0.Cities.length : Int)) = true then
    if decide (p1 < 50) = true then
      (at? a0.Cities p1).bind fun (x2 : GCity) =>
      if decide ((x2.Feasts.length : Int) > 70) = true then
        some (.inr (.inr (())))
      else
        (at? a0.Cities p1).bind fun (x3 : GCity) =>
        if decide ((x3.Shut.length : Int) > 210) = true then
          some (.inr (.inr (())))
        else
          (at? a0.Cities p1).bind fun (x4 : GCity) =>
          if decide ((x4.Rest.length : Int) > 8) = true then
            some (.inr (.inr (())))
          else
            some (.inl (IntKind.wrap .i64 (p1 + 1)))
    else
      some (.inr (.inl ()))
  else
    some (.inr (.inl ()))
noncomputable def mallongeref09_Few_l1 (a0 : GRealm) (p1 : Int) : Option (Unit ⊕ Unit) :=
  Iter (fun (w : Int) => mallongeref09_Few_l1_s a0 w) p1
noncomputable def mallongeref09_Few_l2_s (a0 : GRealm) (p8 : Int) : Option ((Int) ⊕ (Unit ⊕ Unit)) :=
  if decide (p8 < (a0.Orders.length : Int)) = true then
    if decide (p8 < 50) = true then
      (at? a0.Orders p8).bind fun (x9 : GOrder) =>
      if decide ((x9.Choices.length : Int) > 40) = true then
        some (.inr (.inr (())))
      else
        (at? a0.Orders p8).bind fun (x10 : GOrder) =>
        if decide ((x10.Rules.length : Int) > 40) = true then
          some (.inr (.inr (())))
        else
          some (.inl (IntKind.wrap .i64 (p8 + 1)))
    else
      some (.inr (.inl ()))
  else
    some (.inr (.inl ()))
noncomputable def mallongeref09_Few_l2 (a0 : GRealm) (p8 : Int) : Option (Unit ⊕ Unit) :=
  Iter (fun (w : Int) => mallongeref09_Few_l2_s a0 w) p8
noncomputable def mallongeref09_Few (a0 : GRealm) : Option (Bool) :=
  (mallongeref09_Few_l1 a0 0).bind fun (r5 : Unit ⊕ Unit) => Sum.elim (fun z6 =>
  (mallongeref09_Few_l2 a0 0).bind fun (r11 : Unit ⊕ Unit) => Sum.elim (fun z12 =>
    if decide ((a0.Currencies.length : Int) < 50) = true then
        if decide ((a0.Cities.length : Int) < 50) = true then
          if decide ((a0.Groups.length : Int) < 50) = true then
            if decide ((a0.Firms.length : Int) < 210) = true then
              if decide ((a0.Orders.length : Int) < 50) = true then
                if decide ((a0.Usances.length : Int) < 110) = true then
                  if decide ((a0.Rates.length : Int) < 110) = true then
                    some (decide ((a0.Halts.length : Int) < 50))
                  else
                    some false
                else
                  some false
              else
                some false
            else
              some false
          else
            some false
        else
          some false
      else
        some false) (fun z13 =>
    some false) r11) (fun z7 =>
  some false) r5
noncomputable def mallongeref09_Usance_l1_s (a0 : GRealm) (a1 : Int) (a2 : Int) (p1 : Int) : Option ((Int) ⊕ (Unit ⊕ Int)) :=
  if decide (p1 < (a0.Usances.length : Int)) = true then
    (at? a0.Usances p1).bind fun (x2 : GUsance) =>
    if (x2.From == a1) = true then
      (at? a0.Usances p1).bind fun (x3 : GUsance) =>
      if (x3.To == a2) = true then
        (at? a0.Usances p1).bind fun (x4 : GUsance) =>
        some (.inr (.inr (x4.Days)))
      else
        some (.inl (IntKind.wrap .i64 (p1 + 1)))
    else
      some (.inl (IntKind.wrap .i64 (p1 + 1)))
  else
    some (.inr (.inl ()))
noncomputable def mallongeref09_Usance_l1 (a0 : GRealm) (a1 : Int) (a2 : Int) (p1 : Int) : Option (Unit ⊕ Int) :=
  Iter (fun (w : Int) => mallongeref09_Usance_l1_s a0 a1 a2 w) p1
noncomputable def mallongeref09_Usance (a0 : GRealm) (a1 : Int) (a2 : Int) : Option (Int × Int) :=
  (mallongeref09_Usance_l1 a0 a1 a2 0).bind fun (r6 : Unit ⊕ Int) => Sum.elim (fun z7 =>
  some (0, 4)) (fun z8 =>
  some (z8, 0)) r6
noncomputable def mallongeref09_Letter (a0 : Int) : Option (Bool) :=
  if decide (97 ≤ a0) = true then
    if decide (a0 ≤ 122) = true then
      some true
    else
      if decide (65 ≤ a0) = true then
        some (decide (a0 ≤ 90))
      else
        some false
  else
    if decide (65 ≤ a0) = true then
      some (decide (a0 ≤ 90))
    else
      some false
noncomputable def mallongeref09_Name_j1 (a0 : ByteArray) (p1 : Int) (p5 : Bool) : Option (Unit ⊕ Unit) :=
  (sAt a0 p1).bind fun (x6 : Int) =>
  (mallongeref09_Letter x6).bind fun (r7 : Bool) =>
  if (!(r7)) = true then
    if (p1 == 0) = true then
      some (.inr (()))
    else
      if (!(p5)) = true then
        some (.inr (()))
      else
        some (.inl ())
  else
    some (.inl ())
noncomputable def mallongeref09_Name_l2_s (a0 : ByteArray) (p1 : Int) : Option ((Int) ⊕ (Unit ⊕ Unit)) :=
  if decide (p1 < (a0.size : Int)) = true then
    (sAt a0 p1).bind fun (x2 : Int) =>
    if (x2 == 95) = true then
      (mallongeref09_Name_j1 a0 p1 true).bind fun (r8 : Unit ⊕ Unit) => Sum.elim (fun z9 =>
      some (.inl (IntKind.wrap .i64 (p1 + 1)))) (fun z10 =>
      some (.inr (.inr (())))) r8
    else
      (sAt a0 p1).bind fun (x3 : Int) =>
      if decide (48 ≤ x3) = true then
        (sAt a0 p1).bind fun (x4 : Int) =>
        (mallongeref09_Name_j1 a0 p1 (decide (x4 ≤ 57))).bind fun (r11 : Unit ⊕ Unit) => Sum.elim (fun z12 =>
        some (.inl (IntKind.wrap .i64 (p1 + 1)))) (fun z13 =>
        some (.inr (.inr (())))) r11
      else
        (mallongeref09_Name_j1 a0 p1 false).bind fun (r14 : Unit ⊕ Unit) => Sum.elim (fun z15 =>
        some (.inl (IntKind.wrap .i64 (p1 + 1)))) (fun z16 =>
        some (.inr (.inr (())))) r14
  else
    some (.inr (.inl ()))
noncomputable def mallongeref09_Name_l2 (a0 : ByteArray) (p1 : Int) : Option (Unit ⊕ Unit) :=
  Iter (fun (w : Int) => mallongeref09_Name_l2_s a0 w) p1
noncomputable def mallongeref09_Name (a0 : ByteArray) : Option (Bool) :=
  if decide ((a0.size : Int) < 1) = true then
    some false
  else
    if decide ((a0.size : Int) > 20) = true then
      some false
    else
      (mallongeref09_Name_l2 a0 0).bind fun (r17 : Unit ⊕ Unit) => Sum.elim (fun z18 =>
      some true) (fun z19 =>
      some false) r17
noncomputable def mallongeref09_Before_l1_s (a0 : List ByteArray) (a1 : Int) (a2 : ByteArray) (p1 : Int) : Option ((Int) ⊕ (Unit ⊕ Unit)) :=
  if decide (p1 < a1) = true then
    if decide (p1 < (a0.length : Int)) = true then
      (at? a0 p1).bind fun (x2 : ByteArray) =>
      if (x2.toList == a2.toList) = true then
        some (.inr (.inr (())))
      else
        some (.inl (IntKind.wrap .i64 (p1 + 1)))
    else
      some (.inr (.inl ()))
  else
    some (.inr (.inl ()))
noncomputable def mallongeref09_Before_l1 (a0 : List ByteArray) (a1 : Int) (a2 : ByteArray) (p1 : Int) : Option (Unit ⊕ Unit) :=
  Iter (fun (w : Int) => mallongeref09_Before_l1_s a0 a1 a2 w) p1
noncomputable def mallongeref09_Before (a0 : List ByteArray) (a1 : Int) (a2 : ByteArray) : Option (Bool) :=
  (mallongeref09_Before_l1 a0 a1 a2 0).bind fun (r3 : Unit ⊕ Unit) => Sum.elim (fun z4 =>
  some false) (fun z5 =>
  some true) r3
noncomputable def mallongeref09_named (a0 : List ByteArray) (a1 : Int) : Option (Int) :=
  (at? a0 a1).bind fun (x1 : ByteArray) =>
  (mallongeref09_Name x1).bind fun (r2 : Bool) =>
  if (!(r2)) = true then
    some 2
  else
    (at? a0 a1).bind fun (x3 : ByteArray) =>
    (mallongeref09_Before a0 a1 x3).bind fun (r4 : Bool) =>
    if r4 = true then
      some 5
    else
      some 0
noncomputable def mallongeref09_Within (a0 : Int) (a1 : Int) (a2 : Int) : Option (Bool) :=
  if decide (a1 ≤ a0) = true then
    some (decide (a0 ≤ a2))
  else
    some false
noncomputable def mallongeref09_Rising_l1_s (a0 : List Int) (a1 : Int) (a2 : Int) (p1 : Int) : Option ((Int) ⊕ (Unit ⊕ Unit)) :=
  if decide (p1 < (a0.length : Int)) = true then
    (at? a0 p1).bind fun (x2 : Int) =>
    (mallongeref09_Within x2 a1 a2).bind fun (r3 : Bool) =>
    if (!(r3)) = true then
      some (.inr (.inr (())))
    else
      if decide (p1 > 0) = true then
        (at? a0 (IntKind.wrap .i64 (p1 - 1))).bind fun (x4 : Int) =>
        (at? a0 p1).bind fun (x5 : Int) =>
        if decide (x4 ≥ x5) = true then
          some (.inr (.inr (())))
        else
          some (.inl (IntKind.wrap .i64 (p1 + 1)))
      else
        some (.inl (IntKind.wrap .i64 (p1 + 1)))
  else
    some (.inr (.inl ()))
noncomputable def mallongeref09_Rising_l1 (a0 : List Int) (a1 : Int) (a2 : Int) (p1 : Int) : Option (Unit ⊕ Unit) :=
  Iter (fun (w : Int) => mallongeref09_Rising_l1_s a0 a1 a2 w) p1
noncomputable def mallongeref09_Rising (a0 : List Int) (a1 : Int) (a2 : Int) : Option (Bool) :=
  (mallongeref09_Rising_l1 a0 a1 a2 0).bind fun (r6 : Unit ⊕ Unit) => Sum.elim (fun z7 =>
  some true) (fun z8 =>
  some false) r6
noncomputable def mallongeref09_RightCity_l1_s (a1 : GCity) (p3 : Int) : Option ((Int) ⊕ (Unit ⊕ Unit)) :=
  if decide (p3 < (a1.Feasts.length : Int)) = true then
    (at? a1.Feasts p3).bind fun (x4 : Int) =>
    (mallongeref09_Within (IntKind.wrap .i64 (x4.tdiv 100)) 1 12).bind fun (r5 : Bool) =>
    if (!(r5)) = true then
      some (.inr (.inr (())))
    else
      (at? a1.Feasts p3).bind fun (x6 : Int) =>
      (mallongeref09_Within (x6.tmod 100) 1 31).bind fun (r7 : Bool) =>
      if (!(r7)) = true then
        some (.inr (.inr (())))
      else
        some (.inl (IntKind.wrap .i64 (p3 + 1)))
  else
    some (.inr (.inl ()))
noncomputable def mallongeref09_RightCity_l1 (a1 : GCity) (p3 : Int) : Option (Unit ⊕ Unit) :=
  Iter (fun (w : Int) => mallongeref09_RightCity_l1_s a1 w) p3
noncomputable def mallongeref09_RightCity (a0 : GRealm) (a1 : GCity) : Option (Bool) :=
  (mallongeref09_Within a1.Order 0 (IntKind.wrap .i64 ((a0.Orders.length : Int) - 1))).bind fun (r1 : Bool) =>
  if (!(r1)) = true then
    some false
  else
    (mallongeref09_Within a1.Currency 0 (IntKind.wrap .i64 ((a0.Currencies.length : Int) - 1))).bind fun (r2 : Bool) =>
    if (!(r2)) = true then
      some false
    else
      if decide ((a1.Feasts.length : Int) > 60) = true then
        some false
      else
        if decide ((a1.Shut.length : Int) > 200) = true then
          some false
        else
          (mallongeref09_RightCity_l1 a1 0).bind fun (r8 : Unit ⊕ Unit) => Sum.elim (fun z9 =>
          (mallongeref09_Rising a1.Rest 0 6).bind fun (r11 : Bool) =>
            if r11 = true then
              (mallongeref09_Rising a1.Feasts 0 2000).bind fun (r12 : Bool) =>
              if r12 = true then
                (mallongeref09_Rising a1.Shut 0 100000).bind fun (r13 : Bool) =>
                some r13
              else
                some false
            else
              some false) (fun z10 =>
          some false) r8
noncomputable def mallongeref09_cities_l1_s (a0 : GRealm) (p1 : Int) : Option ((Int) ⊕ (Unit ⊕ Int)) :=
  if decide (p1 < (a0.Currencies.length : Int)) = true then
    (mallongeref09_named a0.Currencies p1).bind fun (r2 : Int) =>
    if (r2 != 0) = true then
      some (.inr (.inr (r2)))
    else
      some (.inl (IntKind.wrap .i64 (p1 + 1)))
  else
    some (.inr (.inl ()))
noncomputable def mallongeref09_cities_l1 (a0 : GRealm) (p1 : Int) : Option (Unit ⊕ Int) :=
  Iter (fun (w : Int) => mallongeref09_cities_l1_s a0 w) p1
noncomputable def mallongeref09_cities_l2_s (a0 : GRealm) (p7 : Int) (p8 : List ByteArray) : Option ((Int × (List ByteArray)) ⊕ (Unit ⊕ Int)) :=
  if decide (p7 < (a0.Cities.length : Int)) = true then
    (at? a0.Cities p7).bind fun (x9 : GCity) =>
    if (p8.length + 1) * 16 ≤ 140737488355328 then
      (mallongeref09_named (p8 ++ [x9.Name]) p7).bind fun (r10 : Int) =>
      if (r10 != 0) = true then
        some (.inr (.inr (r10)))
      else
        (at? a0.Cities p7).bind fun (x11 : GCity) =>
        (mallongeref09_RightCity a0 x11).bind fun (r12 : Bool) =>
        if (!(r12)) = true then
          some (.inr (.inr (1)))
        else
          some (.inl (IntKind.wrap .i64 (p7 + 1), p8 ++ [x9.Name]))
    else none
  else
    some (.inr (.inl ()))
noncomputable def mallongeref09_cities_l2 (a0 : GRealm) (p7 : Int) (p8 : List ByteArray) : Option (Unit ⊕ Int) :=
  Iter (fun (w : Int × (List ByteArray)) => mallongeref09_cities_l2_s a0 w.1 w.2) (p7, p8)
noncomputable def mallongeref09_cities (a0 : GRealm) : Option (Int) :=
  if decide ((a0.Currencies.length : Int) > 8) = true then
    some 6
  else
    (mallongeref09_cities_l1 a0 0).bind fun (r4 : Unit ⊕ Int) => Sum.elim (fun z5 =>
    if decide ((a0.Cities.length : Int) > 40) = true then
        some 6
      else
        (mallongeref09_cities_l2 a0 0 []).bind fun (r14 : Unit ⊕ Int) => Sum.elim (fun z15 =>
        some 0) (fun z16 =>
        some z16) r14) (fun z6 =>
    some z6) r4
noncomputable def mallongeref09_firms_l1_s (a0 : GRealm) (p1 : Int) : Option ((Int) ⊕ (Unit ⊕ Unit)) :=
  if decide (p1 < (a0.Groups.length : Int)) = true then
    (at? a0.Groups p1).bind fun (x2 : GGroup) =>
    (mallongeref09_Within x2.Grade 0 9).bind fun (r3 : Bool) =>
    if (!(r3)) = true then
      some (.inr (.inr (())))
    else
      some (.inl (IntKind.wrap .i64 (p1 + 1)))
  else
    some (.inr (.inl ()))
noncomputable def mallongeref09_firms_l1 (a0 : GRealm) (p1 : Int) : Option (Unit ⊕ Unit) :=
  Iter (fun (w : Int) => mallongeref09_firms_l1_s a0 w) p1
noncomputable def mallongeref09_firms_l2_s (a0 : GRealm) (p7 : Int) (p8 : List ByteArray) : Option ((Int × (List ByteArray)) ⊕ (Unit ⊕ Int)) :=
  if decide (p7 < (a0.Firms.length : Int)) = true then
    (at? a0.Firms p7).bind fun (x9 : GFirm) =>
    if (p8.length + 1) * 16 ≤ 140737488355328 then
      (mallongeref09_named (p8 ++ [x9.Name]) p7).bind fun (r10 : Int) =>
      if (r10 != 0) = true then
        some (.inr (.inr (r10)))
      else
        (at? a0.Firms p7).bind fun (x11 : GFirm) =>
        (mallongeref09_Within x11.City 0 (IntKind.wrap .i64 ((a0.Cities.length : Int) - 1))).bind fun (r12 : Bool) =>
        if (!(r12)) = true then
          some (.inr (.inr (1)))
        else
          (at? a0.Firms p7).bind fun (x13 : GFirm) =>
          (mallongeref09_Within x13.Group 0 (IntKind.wrap .i64 ((a0.Groups.length : Int) - 1))).bind fun (r14 : Bool) =>
          if (!(r14)) = true then
            some (.inr (.inr (1)))
          else
            some (.inl (IntKind.wrap .i64 (p7 + 1), p8 ++ [x9.Name]))
    else none
  else
    some (.inr (.inl ()))
noncomputable def mallongeref09_firms_l2 (a0 : GRealm) (p7 : Int) (p8 : List ByteArray) : Option (Unit ⊕ Int) :=
  Iter (fun (w : Int × (List ByteArray)) => mallongeref09_firms_l2_s a0 w.1 w.2) (p7, p8)
noncomputable def mallongeref09_firms (a0 : GRealm) : Option (Int) :=
  if decide ((a0.Groups.length : Int) > 20) = true then
    some 6
  else
    (mallongeref09_firms_l1 a0 0).bind fun (r4 : Unit ⊕ Unit) => Sum.elim (fun z5 =>
    if decide ((a0.Firms.length : Int) > 200) = true then
        some 6
      else
        (mallongeref09_firms_l2 a0 0 []).bind fun (r16 : Unit ⊕ Int) => Sum.elim (fun z17 =>
        some 0) (fun z18 =>
        some z18) r16) (fun z6 =>
    some 1) r4
noncomputable def mallongeref09_RightOrder_l1_s (a0 : GOrder) (p1 : Int) : Option ((Int) ⊕ (Unit ⊕ Unit)) :=
  if decide (p1 < (a0.Choices.length : Int)) = true then
    (at? a0.Choices p1).bind fun (x2 : GChoice) =>
    (mallongeref09_Within x2.Ask 0 21).bind fun (r3 : Bool) =>
    if (!(r3)) = true then
      some (.inr (.inr (())))
    else
      (at? a0.Choices p1).bind fun (x4 : GChoice) =>
      (mallongeref09_Within x4.By 0 4).bind fun (r5 : Bool) =>
      if (!(r5)) = true then
        some (.inr (.inr (())))
      else
        if decide (p1 > 0) = true then
          (at? a0.Choices (IntKind.wrap .i64 (p1 - 1))).bind fun (x6 : GChoice) =>
          (at? a0.Choices p1).bind fun (x7 : GChoice) =>
          if decide (x6.Ask ≥ x7.Ask) = true then
            some (.inr (.inr (())))
          else
            some (.inl (IntKind.wrap .i64 (p1 + 1)))
        else
          some (.inl (IntKind.wrap .i64 (p1 + 1)))
  else
    some (.inr (.inl ()))
noncomputable def mallongeref09_RightOrder_l1 (a0 : GOrder) (p1 : Int) : Option (Unit ⊕ Unit) :=
  Iter (fun (w : Int) => mallongeref09_RightOrder_l1_s a0 w) p1
noncomputable def mallongeref09_RightOrder_l2_s (a0 : GOrder) (p11 : Int) : Option ((Int) ⊕ (Unit ⊕ Unit)) :=
  if decide (p11 < (a0.Rules.length : Int)) = true then
    (at? a0.Rules p11).bind fun (x12 : GRule) =>
    (mallongeref09_Within x12.Ask 0 21).bind fun (r13 : Bool) =>
    if (!(r13)) = true then
      some (.inr (.inr (())))
    else
      if decide (p11 > 0) = true then
        (at? a0.Rules (IntKind.wrap .i64 (p11 - 1))).bind fun (x14 : GRule) =>
        (at? a0.Rules p11).bind fun (x15 : GRule) =>
        if decide (x14.Ask ≥ x15.Ask) = true then
          some (.inr (.inr (())))
        else
          some (.inl (IntKind.wrap .i64 (p11 + 1)))
      else
        some (.inl (IntKind.wrap .i64 (p11 + 1)))
  else
    some (.inr (.inl ()))
noncomputable def mallongeref09_RightOrder_l2 (a0 : GOrder) (p11 : Int) : Option (Unit ⊕ Unit) :=
  Iter (fun (w : Int) => mallongeref09_RightOrder_l2_s a0 w) p11
noncomputable def mallongeref09_RightOrder (a0 : GOrder) : Option (Bool) :=
  (mallongeref09_RightOrder_l1 a0 0).bind fun (r8 : Unit ⊕ Unit) => Sum.elim (fun z9 =>
  (mallongeref09_RightOrder_l2 a0 0).bind fun (r16 : Unit ⊕ Unit) => Sum.elim (fun z17 =>
    some true) (fun z18 =>
    some false) r16) (fun z10 =>
  some false) r8
noncomputable def mallongeref09_orders_l1_s (a0 : GRealm) (p1 : Int) (p2 : List ByteArray) : Option ((Int × (List ByteArray)) ⊕ (Unit ⊕ Int)) :=
  if decide (p1 < (a0.Orders.length : Int)) = true then
    (at? a0.Orders p1).bind fun (x3 : GOrder) =>
    if (p2.length + 1) * 16 ≤ 140737488355328 then
      (mallongeref09_named (p2 ++ [x3.Name]) p1).bind fun (r4 : Int) =>
      if (r4 != 0) = true then
        some (.inr (.inr (r4)))
      else
        (at? a0.Orders p1).bind fun (x5 : GOrder) =>
        (mallongeref09_RightOrder x5).bind fun (r6 : Bool) =>
        if (!(r6)) = true then
          some (.inr (.inr (1)))
        else
          some (.inl (IntKind.wrap .i64 (p1 + 1), p2 ++ [x3.Name]))
    else none
  else
    some (.inr (.inl ()))
noncomputable def mallongeref09_orders_l1 (a0 : GRealm) (p1 : Int) (p2 : List ByteArray) : Option (Unit ⊕ Int) :=
  Iter (fun (w : Int × (List ByteArray)) => mallongeref09_orders_l1_s a0 w.1 w.2) (p1, p2)
noncomputable def mallongeref09_orders (a0 : GRealm) : Option (Int) :=
  if decide ((a0.Orders.length : Int) > 20) = true then
    some 6
  else
    (mallongeref09_orders_l1 a0 0 []).bind fun (r8 : Unit ⊕ Int) => Sum.elim (fun z9 =>
    some 0) (fun z10 =>
    some z10) r8
noncomputable def mallongeref09_usances_l1_s (a0 : GRealm) (p1 : Int) (x2 : GUsance) (p6 : Int) : Option ((Int) ⊕ (Unit ⊕ Unit)) :=
  if decide (p6 < p1) = true then
    (at? a0.Usances p6).bind fun (x7 : GUsance) =>
    if (x7.From == x2.From) = true then
      (at? a0.Usances p6).bind fun (x8 : GUsance) =>
      if (x8.To == x2.To) = true then
        some (.inr (.inr (())))
      else
        some (.inl (IntKind.wrap .i64 (p6 + 1)))
    else
      some (.inl (IntKind.wrap .i64 (p6 + 1)))
  else
    some (.inr (.inl ()))
noncomputable def mallongeref09_usances_l1 (a0 : GRealm) (p1 : Int) (x2 : GUsance) (p6 : Int) : Option (Unit ⊕ Unit) :=
  Iter (fun (w : Int) => mallongeref09_usances_l1_s a0 p1 x2 w) p6
noncomputable def mallongeref09_usances_l2_s (a0 : GRealm) (p1 : Int) : Option ((Int) ⊕ (Unit ⊕ Int)) :=
  if decide (p1 < (a0.Usances.length : Int)) = true then
    (at? a0.Usances p1).bind fun (x2 : GUsance) =>
    (mallongeref09_Within x2.From 0 (IntKind.wrap .i64 ((a0.Cities.length : Int) - 1))).bind fun (r3 : Bool) =>
    if (!(r3)) = true then
      some (.inr (.inr (1)))
    else
      (mallongeref09_Within x2.To 0 (IntKind.wrap .i64 ((a0.Cities.length : Int) - 1))).bind fun (r4 : Bool) =>
      if (!(r4)) = true then
        some (.inr (.inr (1)))
      else
        (mallongeref09_Within x2.Days 1 20000).bind fun (r5 : Bool) =>
        if (!(r5)) = true then
          some (.inr (.inr (1)))
        else
          (mallongeref09_usances_l1 a0 p1 x2 0).bind fun (r9 : Unit ⊕ Unit) => Sum.elim (fun z10 =>
          some (.inl (IntKind.wrap .i64 (p1 + 1)))) (fun z11 =>
          some (.inr (.inr (5)))) r9
  else
    some (.inr (.inl ()))
noncomputable def mallongeref09_usances_l2 (a0 : GRealm) (p1 : Int) : Option (Unit ⊕ Int) :=
  Iter (fun (w : Int) => mallongeref09_usances_l2_s a0 w) p1
noncomputable def mallongeref09_usances (a0 : GRealm) : Option (Int) :=
  if decide ((a0.Usances.length : Int) > 100) = true then
    some 6
  else
    (mallongeref09_usances_l2 a0 0).bind fun (r13 : Unit ⊕ Int) => Sum.elim (fun z14 =>
    some 0) (fun z15 =>
    some z15) r13
noncomputable def mallongeref09_others_l1_s (a0 : GRealm) (p1 : Int) : Option ((Int) ⊕ (Unit ⊕ Unit)) :=
  if decide (p1 < (a0.Rates.length : Int)) = true then
    (at? a0.Rates p1).bind fun (x2 : GRate) =>
    (mallongeref09_Within x2.From 0 (IntKind.wrap .i64 ((a0.Currencies.length : Int) - 1))).bind fun (r3 : Bool) =>
    if (!(r3)) = true then
      some (.inr (.inr (())))
    else
      (mallongeref09_Within x2.To 0 (IntKind.wrap .i64 ((a0.Currencies.length : Int) - 1))).bind fun (r4 : Bool) =>
      if (!(r4)) = true then
        some (.inr (.inr (())))
      else
        if (x2.From == x2.To) = true then
          some (.inr (.inr (())))
        else
          (mallongeref09_Within x2.Num 1 1073741824).bind fun (r5 : Bool) =>
          if (!(r5)) = true then
            some (.inr (.inr (())))
          else
            (mallongeref09_Within x2.Den 1 1073741824).bind fun (r6 : Bool) =>
            if (!(r6)) = true then
              some (.inr (.inr (())))
            else
              (mallongeref09_Within x2.Since 0 100000).bind fun (r7 : Bool) =>
              if (!(r7)) = true then
                some (.inr (.inr (())))
              else
                some (.inl (IntKind.wrap .i64 (p1 + 1)))
  else
    some (.inr (.inl ()))
noncomputable def mallongeref09_others_l1 (a0 : GRealm) (p1 : Int) : Option (Unit ⊕ Unit) :=
  Iter (fun (w : Int) => mallongeref09_others_l1_s a0 w) p1
noncomputable def mallongeref09_others_l2_s (a0 : GRealm) (p11 : Int) : Option ((Int) ⊕ (Unit ⊕ Unit)) :=
  if decide (p11 < (a0.Halts.length : Int)) = true then
    (at? a0.Halts p11).bind fun (x12 : GHalt) =>
    (mallongeref09_Within x12.Order 0 (IntKind.wrap .i64 ((a0.Orders.length : Int) - 1))).bind fun (r13 : Bool) =>
    if (!(r13)) = true then
      some (.inr (.inr (())))
    else
      (mallongeref09_Within x12.From 0 x12.To).bind fun (r14 : Bool) =>
      if (!(r14)) = true then
        some (.inr (.inr (())))
      else
        if decide (x12.To > 100000) = true then
          some (.inr (.inr (())))
        else
          some (.inl (IntKind.wrap .i64 (p11 + 1)))
  else
    some (.inr (.inl ()))
noncomputable def mallongeref09_others_l2 (a0 : GRealm) (p11 : Int) : Option (Unit ⊕ Unit) :=
  Iter (fun (w : Int) => mallongeref09_others_l2_s a0 w) p11
noncomputable def mallongeref09_others (a0 : GRealm) : Option (Int) :=
  if decide ((a0.Rates.length : Int) > 100) = true then
    some 6
  else
    (mallongeref09_others_l1 a0 0).bind fun (r8 : Unit ⊕ Unit) => Sum.elim (fun z9 =>
    if decide ((a0.Halts.length : Int) > 20) = true then
        some 6
      else
        (mallongeref09_others_l2 a0 0).bind fun (r15 : Unit ⊕ Unit) => Sum.elim (fun z16 =>
        some 0) (fun z17 =>
        some 1) r15) (fun z10 =>
    some 1) r8
noncomputable def mallongeref09_Check_j1 (a0 : GRealm) (p7 : Int) : Option (Int) :=
  if (p7 == 0) = true then
    (mallongeref09_others a0).bind fun (r8 : Int) =>
    some (r8)
  else
    some (p7)
noncomputable def mallongeref09_Check_j2 (a0 : GRealm) (p5 : Int) : Option (Int) :=
  if (p5 == 0) = true then
    (mallongeref09_usances a0).bind fun (r6 : Int) =>
    (mallongeref09_Check_j1 a0 r6).bind fun (r10 : Int) =>
    some (r10)
  else
    (mallongeref09_Check_j1 a0 p5).bind fun (r11 : Int) =>
    some (r11)
noncomputable def mallongeref09_Check_j3 (a0 : GRealm) (p3 : Int) : Option (Int) :=
  if (p3 == 0) = true then
    (mallongeref09_orders a0).bind fun (r4 : Int) =>
    (mallongeref09_Check_j2 a0 r4).bind fun (r13 : Int) =>
    some (r13)
  else
    (mallongeref09_Check_j2 a0 p3).bind fun (r14 : Int) =>
    some (r14)
noncomputable def mallongeref09_Check (a0 : GRealm) : Option (Int) :=
  (mallongeref09_cities a0).bind fun (r1 : Int) =>
  if (r1 == 0) = true then
    (mallongeref09_firms a0).bind fun (r2 : Int) =>
    (mallongeref09_Check_j3 a0 r2).bind fun (r16 : Int) =>
    some r16
  else
    (mallongeref09_Check_j3 a0 r1).bind fun (r17 : Int) =>
    some r17
noncomputable def mallongeref09_OrderAt (a0 : GRealm) (a1 : Int) : Option (Int) :=
  (mallongeref09_Within a1 0 (IntKind.wrap .i64 ((a0.Cities.length : Int) - 1))).bind fun (r1 : Bool) =>
  if r1 = true then
    (at? a0.Cities a1).bind fun (x2 : GCity) =>
    some x2.Order
  else
    some (-1)
noncomputable def mallongeref09_Members_l1_s (a0 : GRealm) (a1 : Int) (p1 : Int) (p2 : List Int) : Option ((Int × (List Int)) ⊕ ((List Int))) :=
  if decide (p1 < (a0.Firms.length : Int)) = true then
    (at? a0.Firms p1).bind fun (x3 : GFirm) =>
    if (x3.Group == a1) = true then
      if (p2.length + 1) * 8 ≤ 140737488355328 then
        some (.inl (IntKind.wrap .i64 (p1 + 1), p2 ++ [p1]))
      else none
    else
      some (.inl (IntKind.wrap .i64 (p1 + 1), p2))
  else
    some (.inr (p2))
noncomputable def mallongeref09_Members_l1 (a0 : GRealm) (a1 : Int) (p1 : Int) (p2 : List Int) : Option ((List Int)) :=
  Iter (fun (w : Int × (List Int)) => mallongeref09_Members_l1_s a0 a1 w.1 w.2) (p1, p2)
noncomputable def mallongeref09_Members (a0 : GRealm) (a1 : Int) : Option ((List Int)) :=
  (mallongeref09_Members_l1 a0 a1 0 []).bind fun (r5 : (List Int)) =>
  some r5
noncomputable def mallongeref09_Grade (a0 : GRealm) (a1 : Int) : Option (Int) :=
  (mallongeref09_Within a1 0 (IntKind.wrap .i64 ((a0.Firms.length : Int) - 1))).bind fun (r1 : Bool) =>
  if (!(r1)) = true then
    some (-1)
  else
    (at? a0.Firms a1).bind fun (x2 : GFirm) =>
    (mallongeref09_Within x2.Group 0 (IntKind.wrap .i64 ((a0.Groups.length : Int) - 1))).bind fun (r3 : Bool) =>
    if (!(r3)) = true then
      some (-1)
    else
      (at? a0.Firms a1).bind fun (x4 : GFirm) =>
      (at? a0.Groups x4.Group).bind fun (x5 : GGroup) =>
      some x5.Grade
noncomputable def mallongeref09_City_l1_s (a0 : GRealm) (a1 : ByteArray) (p1 : Int) : Option ((Int) ⊕ (Unit ⊕ Int)) :=
  if decide (p1 < (a0.Cities.length : Int)) = true then
    (at? a0.Cities p1).bind fun (x2 : GCity) =>
    if (x2.Name.toList == a1.toList) = true then
      some (.inr (.inr (p1)))
    else
      some (.inl (IntKind.wrap .i64 (p1 + 1)))
  else
    some (.inr (.inl ()))
noncomputable def mallongeref09_City_l1 (a0 : GRealm) (a1 : ByteArray) (p1 : Int) : Option (Unit ⊕ Int) :=
  Iter (fun (w : Int) => mallongeref09_City_l1_s a0 a1 w) p1
noncomputable def mallongeref09_City (a0 : GRealm) (a1 : ByteArray) : Option (Int) :=
  (mallongeref09_City_l1 a0 a1 0).bind fun (r4 : Unit ⊕ Int) => Sum.elim (fun z5 =>
  some (-1)) (fun z6 =>
  some z6) r4
noncomputable def mallongeref09_Firm_l1_s (a0 : GRealm) (a1 : ByteArray) (p1 : Int) : Option ((Int) ⊕ (Unit ⊕ Int)) :=
  if decide (p1 < (a0.Firms.length : Int)) = true then
    (at? a0.Firms p1).bind fun (x2 : GFirm) =>
    if (x2.Name.toList == a1.toList) = true then
      some (.inr (.inr (p1)))
    else
      some (.inl (IntKind.wrap .i64 (p1 + 1)))
  else
    some (.inr (.inl ()))
noncomputable def mallongeref09_Firm_l1 (a0 : GRealm) (a1 : ByteArray) (p1 : Int) : Option (Unit ⊕ Int) :=
  Iter (fun (w : Int) => mallongeref09_Firm_l1_s a0 a1 w) p1
noncomputable def mallongeref09_Firm (a0 : GRealm) (a1 : ByteArray) : Option (Int) :=
  (mallongeref09_Firm_l1 a0 a1 0).bind fun (r4 : Unit ⊕ Int) => Sum.elim (fun z5 =>
  some (-1)) (fun z6 =>
  some z6) r4
noncomputable def mallongelaw09_RealmTells (a0 : GRealm) (a1 : Int) (a2 : Int) (a3 : ByteArray) : Option (Bool) :=
  (mallongelaw09_sane).bind fun (r1 : Bool) =>
  (mallongeref09_Few a0).bind fun (r2 : Bool) =>
  if (!(r2)) = true then
    some r1
  else
    (mrealm_Usance a0 a1 a2).bind fun (r3 : Int × Int) =>
    (mallongeref09_Usance a0 a1 a2).bind fun (r4 : Int × Int) =>
    (mrealm_Check a0).bind fun (r5 : Int) =>
    (mallongeref09_Check a0).bind fun (r6 : Int) =>
    if (r5 != r6) = true then
      some false
    else
      if (r3.1 != r4.1) = true then
        some false
      else
        if (r3.2 != r4.2) = true then
          some false
        else
          (mrealm_OrderAt a0 a1).bind fun (r7 : Int) =>
          (mallongeref09_OrderAt a0 a1).bind fun (r8 : Int) =>
          if (r7 != r8) = true then
            some false
          else
            if r1 = true then
              (mrealm_Members a0 a1).bind fun (r9 : (List Int)) =>
              (mallongeref09_Members a0 a1).bind fun (r10 : (List Int)) =>
              (mallongeref09_SameInts r9 r10).bind fun (r11 : Bool) =>
              if r11 = true then
                (mrealm_Grade a0 a1).bind fun (r12 : Int) =>
                (mallongeref09_Grade a0 a1).bind fun (r13 : Int) =>
                if (r12 == r13) = true then
                  (mrealm_City a0 a3).bind fun (r14 : Int) =>
                  (mallongeref09_City a0 a3).bind fun (r15 : Int) =>
                  if (r14 == r15) = true then
                    (mrealm_Firm a0 a3).bind fun (r16 : Int) =>
                    (mallongeref09_Firm a0 a3).bind fun (r17 : Int) =>
                    some (r16 == r17)
                  else
                    some false
                else
                  some false
              else
                some false
            else
              some false
noncomputable def mallongelaw09_RealmFinds_l1_s (a0 : GRealm) (r1 : Bool) (p4 : Int) : Option ((Int) ⊕ (Unit ⊕ Unit)) :=
  if decide (p4 < (a0.Cities.length : Int)) = true then
    (mrealm_OrderAt a0 p4).bind fun (r5 : Int) =>
    (at? a0.Cities p4).bind fun (x6 : GCity) =>
    (mrealm_City a0 x6.Name).bind fun (r7 : Int) =>
    if (r7 != p4) = true then
      some (.inr (.inr (())))
    else
      if decide (r5 < 0) = true then
        some (.inr (.inr (())))
      else
        if decide (r5 ≥ (a0.Orders.length : Int)) = true then
          some (.inr (.inr (())))
        else
          some (.inl (IntKind.wrap .i64 (p4 + 1)))
  else
    some (.inr (.inl ()))
noncomputable def mallongelaw09_RealmFinds_l1 (a0 : GRealm) (r1 : Bool) (p4 : Int) : Option (Unit ⊕ Unit) :=
  Iter (fun (w : Int) => mallongelaw09_RealmFinds_l1_s a0 r1 w) p4
noncomputable def mallongelaw09_RealmFinds_l2_s (a0 : GRealm) (r1 : Bool) (p11 : Int) : Option ((Int) ⊕ (Unit ⊕ Unit)) :=
  if decide (p11 < (a0.Firms.length : Int)) = true then
    (mrealm_Grade a0 p11).bind fun (r12 : Int) =>
    (at? a0.Firms p11).bind fun (x13 : GFirm) =>
    (mrealm_Firm a0 x13.Name).bind fun (r14 : Int) =>
    if (r14 != p11) = true then
      some (.inr (.inr (())))
    else
      if decide (r12 < 0) = true then
        some (.inr (.inr (())))
      else
        if decide (r12 > 9) = true then
          some (.inr (.inr (())))
        else
          (at? a0.Firms p11).bind fun (x15 : GFirm) =>
          if decide (x15.City ≥ (a0.Cities.length : Int)) = true then
            some (.inr (.inr (())))
          else
            some (.inl (IntKind.wrap .i64 (p11 + 1)))
  else
    some (.inr (.inl ()))
noncomputable def mallongelaw09_RealmFinds_l2 (a0 : GRealm) (r1 : Bool) (p11 : Int) : Option (Unit ⊕ Unit) :=
  Iter (fun (w : Int) => mallongelaw09_RealmFinds_l2_s a0 r1 w) p11
noncomputable def mallongelaw09_RealmFinds (a0 : GRealm) : Option (Bool) :=
  (mallongelaw09_sane).bind fun (r1 : Bool) =>
  (mallongeref09_Few a0).bind fun (r2 : Bool) =>
  if (!(r2)) = true then
    some r1
  else
    (mrealm_Check a0).bind fun (r3 : Int) =>
    if (r3 != 0) = true then
      some r1
    else
      (mallongelaw09_RealmFinds_l1 a0 r1 0).bind fun (r8 : Unit ⊕ Unit) => Sum.elim (fun z9 =>
      (mallongelaw09_RealmFinds_l2 a0 r1 0).bind fun (r16 : Unit ⊕ Unit) => Sum.elim (fun z17 =>
        some r1) (fun z18 =>
        some false) r16) (fun z10 =>
      some false) r8
noncomputable def mallongelaw09_RealmMembers_j1 (a0 : GRealm) (p5 : Int) (p7 : Int) (p8 : Int) (r1 : Bool) (r6 : (List Int)) : Option (Unit ⊕ Unit) :=
  (at? r6 p8).bind fun (x13 : Int) =>
  (at? a0.Firms x13).bind fun (x14 : GFirm) =>
  if (x14.Group != p5) = true then
    some (.inr (()))
  else
    (at? r6 p8).bind fun (x15 : Int) =>
    (mrealm_Grade a0 x15).bind fun (r16 : Int) =>
    (at? a0.Groups p5).bind fun (x17 : GGroup) =>
    if (r16 != x17.Grade) = true then
      some (.inr (()))
    else
      some (.inl ())
noncomputable def mallongelaw09_RealmMembers_l2_s (a0 : GRealm) (p5 : Int) (r1 : Bool) (r6 : (List Int)) (p7 : Int) (p8 : Int) : Option ((Int × Int) ⊕ (Int ⊕ Unit)) :=
  if decide (p8 < (r6.length : Int)) = true then
    (at? r6 p8).bind fun (x9 : Int) =>
    if decide (x9 < 0) = true then
      some (.inr (.inr (())))
    else
      (at? r6 p8).bind fun (x10 : Int) =>
      if decide (x10 ≥ (a0.Firms.length : Int)) = true then
        some (.inr (.inr (())))
      else
        if decide (p8 > 0) = true then
          (at? r6 (IntKind.wrap .i64 (p8 - 1))).bind fun (x11 : Int) =>
          (at? r6 p8).bind fun (x12 : Int) =>
          if decide (x11 ≥ x12) = true then
            some (.inr (.inr (())))
          else
            (mallongelaw09_RealmMembers_j1 a0 p5 p7 p8 r1 r6).bind fun (r18 : Unit ⊕ Unit) => Sum.elim (fun z19 =>
            some (.inl (IntKind.wrap .i64 (p7 + 1), IntKind.wrap .i64 (p8 + 1)))) (fun z20 =>
            some (.inr (.inr (())))) r18
        else
          (mallongelaw09_RealmMembers_j1 a0 p5 p7 p8 r1 r6).bind fun (r21 : Unit ⊕ Unit) => Sum.elim (fun z22 =>
          some (.inl (IntKind.wrap .i64 (p7 + 1), IntKind.wrap .i64 (p8 + 1)))) (fun z23 =>
          some (.inr (.inr (())))) r21
  else
    some (.inr (.inl p7))
noncomputable def mallongelaw09_RealmMembers_l2 (a0 : GRealm) (p5 : Int) (r1 : Bool) (r6 : (List Int)) (p7 : Int) (p8 : Int) : Option (Int ⊕ Unit) :=
  Iter (fun (w : Int × Int) => mallongelaw09_RealmMembers_l2_s a0 p5 r1 r6 w.1 w.2) (p7, p8)
noncomputable def mallongelaw09_RealmMembers_l3_s (a0 : GRealm) (r1 : Bool) (p4 : Int) (p5 : Int) : Option ((Int × Int) ⊕ (Int ⊕ Unit)) :=
  if decide (p5 < (a0.Groups.length : Int)) = true then
    (mrealm_Members a0 p5).bind fun (r6 : (List Int)) =>
    (mallongelaw09_RealmMembers_l2 a0 p5 r1 r6 p4 0).bind fun (r25 : Int ⊕ Unit) => Sum.elim (fun z26 =>
    some (.inl (z26, IntKind.wrap .i64 (p5 + 1)))) (fun z27 =>
    some (.inr (.inr (())))) r25
  else
    some (.inr (.inl p4))
noncomputable def mallongelaw09_RealmMembers_l3 (a0 : GRealm) (r1 : Bool) (p4 : Int) (p5 : Int) : Option (Int ⊕ Unit) :=
  Iter (fun (w : Int × Int) => mallongelaw09_RealmMembers_l3_s a0 r1 w.1 w.2) (p4, p5)
noncomputable def mallongelaw09_RealmMembers (a0 : GRealm) : Option (Bool) :=
  (mallongelaw09_sane).bind fun (r1 : Bool) =>
  (mallongeref09_Few a0).bind fun (r2 : Bool) =>
  if (!(r2)) = true then
    some r1
  else
    (mrealm_Check a0).bind fun (r3 : Int) =>
    if (r3 != 0) = true then
      some r1
    else
      (mallongelaw09_RealmMembers_l3 a0 r1 0 0).bind fun (r29 : Int ⊕ Unit) => Sum.elim (fun z30 =>
      if r1 = true then
          if (z30 == (a0.Firms.length : Int)) = true then
            (mrealm_Members a0 (a0.Groups.length : Int)).bind fun (r32 : (List Int)) =>
            if ((r32.length : Int) == 0) = true then
              (mrealm_Members a0 (-1)).bind fun (r33 : (List Int)) =>
              some ((r33.length : Int) == 0)
            else
              some false
          else
            some false
        else
          some false) (fun z31 =>
      some false) r29
noncomputable def mallongelaw09_RealmUsances_l1_s (a0 : GRealm) (a1 : Int) (a2 : Int) (a3 : Int) (r1 : Bool) (r4 : Int × Int) (r5 : Int × Int) (p6 : Bool) (p7 : Int) : Option ((Bool × Int) ⊕ (Bool)) :=
  if decide (p7 < (a0.Usances.length : Int)) = true then
    if p6 = true then
      some (.inl (true, IntKind.wrap .i64 (p7 + 1)))
    else
      (at? a0.Usances p7).bind fun (x8 : GUsance) =>
      some (.inl ((x8.From == a1) && ((x8.To == a2) && (x8.Days == r4.1)), IntKind.wrap .i64 (p7 + 1)))
  else
    some (.inr (p6))
noncomputable def mallongelaw09_RealmUsances_l1 (a0 : GRealm) (a1 : Int) (a2 : Int) (a3 : Int) (r1 : Bool) (r4 : Int × Int) (r5 : Int × Int) (p6 : Bool) (p7 : Int) : Option (Bool) :=
  Iter (fun (w : Bool × Int) => mallongelaw09_RealmUsances_l1_s a0 a1 a2 a3 r1 r4 r5 w.1 w.2) (p6, p7)
noncomputable def mallongelaw09_RealmUsances (a0 : GRealm) (a1 : Int) (a2 : Int) (a3 : Int) : Option (Bool) :=
  (mallongelaw09_sane).bind fun (r1 : Bool) =>
  (mallongeref09_Few a0).bind fun (r2 : Bool) =>
  if (!(r2)) = true then
    some r1
  else
    (mrealm_Check a0).bind fun (r3 : Int) =>
    if (r3 != 0) = true then
      some r1
    else
      if decide (a3 < 0) = true then
        some r1
      else
        if decide (a3 > (a0.Usances.length : Int)) = true then
          some r1
        else
          if sliceOk a0.Usances.length a3 (a0.Usances.length : Int) then
            if (0 + (sliceL a0.Usances a3 (a0.Usances.length : Int)).length) * 24 ≤ 140737488355328 then
              if sliceOk a0.Usances.length 0 a3 then
                if ((([] : List GUsance) ++ (sliceL a0.Usances a3 (a0.Usances.length : Int))).length + (sliceL a0.Usances 0 a3).length) * 24 ≤ 140737488355328 then
                  (mrealm_Usance a0 a1 a2).bind fun (r4 : Int × Int) =>
                  (mrealm_Usance (GRealm.mk a0.Currencies a0.Cities a0.Groups a0.Firms a0.Orders ((([] : List GUsance) ++ (sliceL a0.Usances a3 (a0.Usances.length : Int))) ++ (sliceL a0.Usances 0 a3)) a0.Rates a0.Halts) a1 a2).bind fun (r5 : Int × Int) =>
                  (mallongelaw09_RealmUsances_l1 a0 a1 a2 a3 r1 r4 r5 false 0).bind fun (r10 : Bool) =>
                  if r1 = true then
                    (mrealm_Check (GRealm.mk a0.Currencies a0.Cities a0.Groups a0.Firms a0.Orders ((([] : List GUsance) ++ (sliceL a0.Usances a3 (a0.Usances.length : Int))) ++ (sliceL a0.Usances 0 a3)) a0.Rates a0.Halts)).bind fun (r11 : Int) =>
                    if (r11 == 0) = true then
                      if (r4.1 == r5.1) = true then
                        if (r4.2 == r5.2) = true then
                          if (r10 == (r4.2 == 0)) = true then
                            if r10 = true then
                              some true
                            else
                              if (r4.2 == 4) = true then
                                some (r4.1 == 0)
                              else
                                some false
                          else
                            some false
                        else
                          some false
                      else
                        some false
                    else
                      some false
                  else
                    some false
                else none
              else none
            else none
          else none
noncomputable def mallongelaw09_RealmLess (a0 : GRealm) (a1 : Int) : Option (Bool) :=
  (mallongelaw09_sane).bind fun (r1 : Bool) =>
  (mallongeref09_Few a0).bind fun (r2 : Bool) =>
  if (!(r2)) = true then
    some r1
  else
    (mrealm_Check a0).bind fun (r3 : Int) =>
    if (r3 != 0) = true then
      some r1
    else
      if ((a0.Firms.length : Int) == 0) = true then
        some r1
      else
        if decide (a1 < 0) = true then
          some r1
        else
          if decide (a1 ≥ (IntKind.wrap .i64 ((a0.Firms.length : Int) - 1))) = true then
            some r1
          else
            if sliceOk a0.Firms.length 0 (IntKind.wrap .i64 ((a0.Firms.length : Int) - 1)) then
              (at? a0.Firms (IntKind.wrap .i64 ((a0.Firms.length : Int) - 1))).bind fun (x4 : GFirm) =>
              if r1 = true then
                (mrealm_Check (GRealm.mk a0.Currencies a0.Cities a0.Groups (sliceL a0.Firms 0 (IntKind.wrap .i64 ((a0.Firms.length : Int) - 1))) a0.Orders a0.Usances a0.Rates a0.Halts)).bind fun (r5 : Int) =>
                if (r5 == 0) = true then
                  (mrealm_Grade (GRealm.mk a0.Currencies a0.Cities a0.Groups (sliceL a0.Firms 0 (IntKind.wrap .i64 ((a0.Firms.length : Int) - 1))) a0.Orders a0.Usances a0.Rates a0.Halts) a1).bind fun (r6 : Int) =>
                  (mrealm_Grade a0 a1).bind fun (r7 : Int) =>
                  if (r6 == r7) = true then
                    (at? a0.Firms a1).bind fun (x8 : GFirm) =>
                    (mrealm_Firm (GRealm.mk a0.Currencies a0.Cities a0.Groups (sliceL a0.Firms 0 (IntKind.wrap .i64 ((a0.Firms.length : Int) - 1))) a0.Orders a0.Usances a0.Rates a0.Halts) x8.Name).bind fun (r9 : Int) =>
                    if (r9 == a1) = true then
                      (mrealm_Firm (GRealm.mk a0.Currencies a0.Cities a0.Groups (sliceL a0.Firms 0 (IntKind.wrap .i64 ((a0.Firms.length : Int) - 1))) a0.Orders a0.Usances a0.Rates a0.Halts) x4.Name).bind fun (r10 : Int) =>
                      if (r10 == (-1)) = true then
                        (mrealm_Grade (GRealm.mk a0.Currencies a0.Cities a0.Groups (sliceL a0.Firms 0 (IntKind.wrap .i64 ((a0.Firms.length : Int) - 1))) a0.Orders a0.Usances a0.Rates a0.Halts) ((sliceL a0.Firms 0 (IntKind.wrap .i64 ((a0.Firms.length : Int) - 1))).length : Int)).bind fun (r11 : Int) =>
                        some (r11 == (-1))
                      else
                        some false
                    else
                      some false
                  else
                    some false
                else
                  some false
              else
                some false
            else none
end Go.Proofs.Ytdjfaepokfdihaa
