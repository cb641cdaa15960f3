/- What is told of functions is so. Printed by a program. -/
import Derived.Test.YtjllkddmkdajcaaTab
import Derived.Test.YtjllkddmkdajcaaCalS
import Derived.Test.YtjllkddmkdajcaaVmTold
set_option linter.unusedVariables false
set_option linter.unusedSimpArgs false
namespace Go.Proofs.Ytjllkddmkdajcaa
open Vm
open Go.RowKit
open Go.Deep
theorem tok100:∀ ds x,o100 ds = some x→Sound Try.prog 100 ds x:=by
 intro ds x e
 unfold o100 at e
 split at e
 ·rename_i d n
  cases e
  refine Reads.of_flat ⟨_,Try.func100,by decide,rfl⟩ fun w vs hsz hr=>?_
  obtain ⟨v0,v1,rfl⟩:=arr2 hsz
  have r0:Reads (hw w) v0 (.int .i64 d):=hr 0 _ rfl
  have r1:Reads (hw w) v1 (.int .i64 n):=hr 1 _ rfl
  cases r0
  cases r1
  refine (addMonths_calls d n w).mono ?_
  rintro e w' ⟨rfl,rfl⟩
  exact ⟨⟨_,rfl,fun h=>rd2 (.int _ _) (.int _ _) rfl rfl⟩,Below.refl _ _⟩
 ·cases e
theorem tok80:∀ ds x,o80 ds = some x→Sound Try.prog 80 ds x:=by
 intro ds x e
 unfold o80 at e
 split at e
 ·rename_i c d
  obtain ⟨t,ht,rfl⟩:=Option.map_eq_some_iff.1 e
  refine Reads.of_flat ⟨_,Try.func80,by decide,rfl⟩ fun w vs hsz hr=>?_
  obtain ⟨v0,v1,rfl⟩:=arr2 hsz
  have r0:Reads (hw w) v0 c:=hr 0 _ rfl
  have r1:Reads (hw w) v1 (.int .i64 d):=hr 1 _ rfl
  obtain ⟨cv,rfl,hc⟩:=dTown_city r0 ht
  cases r1
  refine (next_calls cv t d w hc).mono ?_
  rintro e w' ⟨rfl,hb⟩
  exact ⟨⟨_,rfl,fun h=>rd2 (.int _ _) (.int _ _) rfl rfl⟩,hb⟩
 ·cases e
theorem tok70:∀ ds x,o70 ds = some x→Sound Try.prog 70 ds x:=by
 intro ds x e
 unfold o70 at e
 split at e
 ·rename_i d n
  cases e
  refine Reads.of_flat ⟨_,Try.func70,by decide,rfl⟩ fun w vs hsz hr=>?_
  obtain ⟨v0,v1,rfl⟩:=arr2 hsz
  have r0:Reads (hw w) v0 (.int .i64 d):=hr 0 _ rfl
  have r1:Reads (hw w) v1 (.int .i64 n):=hr 1 _ rfl
  cases r0
  cases r1
  refine (addMonthsR_calls d n w).mono ?_
  rintro e w' ⟨rfl,rfl⟩
  exact ⟨⟨_,rfl,fun h=>rd2 (.int _ _) (.int _ _) rfl rfl⟩,Below.refl _ _⟩
 ·cases e
theorem tok87:∀ ds x,o87 ds = some x→Sound Try.prog 87 ds x:=by
 intro ds x e
 unfold o87 at e
 split at e
 ·rename_i c d
  obtain ⟨t,ht,rfl⟩:=Option.map_eq_some_iff.1 e
  refine Reads.of_flat ⟨_,Try.func87,by decide,rfl⟩ fun w vs hsz hr=>?_
  obtain ⟨v0,v1,rfl⟩:=arr2 hsz
  have r0:Reads (hw w) v0 c:=hr 0 _ rfl
  have r1:Reads (hw w) v1 (.int .i64 d):=hr 1 _ rfl
  obtain ⟨cv,rfl,hc⟩:=dTown_city r0 ht
  cases r1
  refine (nextR_calls cv t d w hc).mono ?_
  rintro e w' ⟨rfl,hb⟩
  exact ⟨⟨_,rfl,fun h=>rd2 (.int _ _) (.int _ _) rfl rfl⟩,hb⟩
 ·cases e
theorem tok37:∀ ds x,o37 ds = some x→Sound Try.prog 37 ds x:=by
 intro ds x e
 unfold o37 at e
 split at e
 ·rename_i c d
  obtain ⟨t,ht,rfl⟩:=Option.map_eq_some_iff.1 e
  refine Reads.of_flat ⟨_,Try.func37,by decide,rfl⟩ fun w vs hsz hr=>?_
  obtain ⟨v0,v1,rfl⟩:=arr2 hsz
  have r0:Reads (hw w) v0 c:=hr 0 _ rfl
  have r1:Reads (hw w) v1 (.int .i64 d):=hr 1 _ rfl
  obtain ⟨cv,rfl,hc⟩:=dTown_city r0 ht
  cases r1
  refine (openC_calls cv t d w hc).mono ?_
  rintro e w' ⟨rfl,hb⟩
  exact ⟨⟨_,rfl,fun h=>rd2 (.bool _) (.int _ _) rfl rfl⟩,hb⟩
 ·cases e
end Go.Proofs.Ytjllkddmkdajcaa
