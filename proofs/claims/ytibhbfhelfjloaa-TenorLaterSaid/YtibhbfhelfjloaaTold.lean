/- What is told of functions is so. Printed by a program. -/
import Derived.Test.YtibhbfhelfjloaaTab
import Derived.Test.YtibhbfhelfjloaaCalS
import Derived.Test.YtibhbfhelfjloaaVmTold
set_option linter.unusedVariables false
set_option linter.unusedSimpArgs false
namespace Go.Proofs.Ytibhbfhelfjloaa
open Vm
open Go.RowKit
open Go.Deep
theorem tok76:∀ ds x,o76 ds = some x→Sound Try.prog 76 ds x:=by
 intro ds x e
 unfold o76 at e
 split at e
 ·rename_i d n
  cases e
  refine Reads.of_flat ⟨_,Try.func76,by decide,rfl⟩ fun w vs hsz hr=>?_
  obtain ⟨v0,v1,rfl⟩:=arr2 hsz
  have r0:Reads (hw w) v0 (.int .i64 d):=hr 0 _ rfl
  have r1:Reads (hw w) v1 (.int .i64 n):=hr 1 _ rfl
  cases r0
  cases r1
  refine (addMonths_calls d n w).mono ?_
  rintro e w' ⟨rfl,rfl⟩
  exact ⟨⟨_,rfl,fun h=>rd2 (.int _ _) (.int _ _) rfl rfl⟩,Below.refl _ _⟩
 ·cases e
theorem tok69:∀ ds x,o69 ds = some x→Sound Try.prog 69 ds x:=by
 intro ds x e
 unfold o69 at e
 split at e
 ·rename_i c d
  obtain ⟨t,ht,rfl⟩:=Option.map_eq_some_iff.1 e
  refine Reads.of_flat ⟨_,Try.func69,by decide,rfl⟩ fun w vs hsz hr=>?_
  obtain ⟨v0,v1,rfl⟩:=arr2 hsz
  have r0:Reads (hw w) v0 c:=hr 0 _ rfl
  have r1:Reads (hw w) v1 (.int .i64 d):=hr 1 _ rfl
  obtain ⟨cv,rfl,hc⟩:=dTown_city r0 ht
  cases r1
  refine (next_calls cv t d w hc).mono ?_
  rintro e w' ⟨rfl,hb⟩
  exact ⟨⟨_,rfl,fun h=>rd2 (.int _ _) (.int _ _) rfl rfl⟩,hb⟩
 ·cases e
end Go.Proofs.Ytibhbfhelfjloaa
