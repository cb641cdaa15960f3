/- What is told of functions is so. Printed by a program. -/
import Derived.Test.YtjllkddmkdajcaaTab
import Derived.Test.YtjllkddmkdajcaaVmT
import Derived.Test.YtjllkddmkdajcaaCalS
set_option linter.unusedVariables false
set_option linter.unusedSimpArgs false
namespace Go.Proofs.Ytjllkddmkdajcaa
open Vm
open Go.RowKit
open Go.Deep
theorem tok75:∀ ds x,o75 ds = some x→Sound Try.prog 75 ds x:=by
  intro ds x e
  unfold o75 at e
  split at e
  · rename_i c d n
    obtain ⟨t,ht,rfl⟩:=Option.map_eq_some_iff.1 e
    refine Reads.of_flat ⟨_,Try.func75,by decide,rfl⟩ fun w vs hsz hr=>?_
    obtain ⟨v0,v1,v2,rfl⟩:=arr3 hsz
    have r0:Reads (hw w) v0 c:=hr 0 _ rfl
    have r1:Reads (hw w) v1 (.int .i64 d):=hr 1 _ rfl
    have r2:Reads (hw w) v2 (.int .i64 n):=hr 2 _ rfl
    obtain ⟨cv,rfl,hc⟩:=dTown_city r0 ht
    cases r1
    cases r2
    refine (plus_calls cv t d n w hc).mono ?_
    rintro e w' ⟨rfl,hb⟩
    exact ⟨⟨_,rfl,fun h=>rd2 (.int _ _) (.int _ _) rfl rfl⟩,hb⟩
  · cases e
theorem info77:(Try.prog.info? 3).map (fun i=>(i.zero,i.size,i.bytes)) = some (some (.int .i64 0),1,8):=by kernel_rfl
set_option maxRecDepth 100000 in
theorem clone_some77 (ad:Addr) (n c:Nat) (w:World) (news:List Value) (hl:news.length = n * 1) (h1:∀ u ∈ news,u.oneCell' = true) (hb:n * 8 ≤ 140737488355328) (hc:∀ j u,news[j]? = some u→w.cell? (ad.add j) = some u) :
    Calls Try.prog 77 #[.slice (some ad) n c] w fun e w'=>∃ v,e = .returned v ∧ w'.ownsRow w.heap.size 3 1 v n news ∧ Below w.heap.size w w':=by
  have hc:=Lib.hid hc
  have hlH:=Lib.hid hl
  have h1H:=Lib.hid h1
  obtain ⟨i0,hi,hz0,hz1,hz2⟩:=info_parts info77
  go_enter Try.func77,Try.ntmps77
  go_wp2_with fail
  rw [run_eql_slice_nil w _ _ (some ad) n c Try.underlying47]
  simp only [Result.andThen_ok]
  go_wp2_with (first
    | (at_builtin
       refine wpList_append_src rfl (.tmp 5) (.tmp 6) _ rfl w.heap.size 3 i0 _ 1 8 Try.underlying47 hi hz0 hz1 hz2 rfl (by omega) _ 0 [] rfl (own_empty w w.heap.size 3 1 (Nat.le_refl _)) _ n news rfl ?q1 hlH.out h1H.out ?q2 ?q3 ?q4 ?_
       case q1=>exact ⟨some ad,c,rfl,(fun h=>by cases h),fun ad' e j u hj=>by cases e; exact blk_cell w _ (hc.out j u hj)⟩
       case q2=>omega
       case q3=>omega
       case q4=>simp
       intro v8 w8 own8 gr8))
  go_ret
  rw [Nat.zero_add] at own8
  exact ⟨_,rfl,own8,((Below.refl _ w).alloc (Nat.le_refl _) _).grown gr8 (by simp) (own_base (own_empty w w.heap.size 3 1 (Nat.le_refl _)))⟩
set_option maxRecDepth 100000 in
theorem clone_nil77 (w:World):Calls Try.prog 77 #[.slice none 0 0] w fun e w'=>e = .returned (.slice none 0 0) ∧ Below w.heap.size w w':=by
  go_enter Try.func77,Try.ntmps77
  go_wp2_with fail
  rw [run_eql_slice_nil w _ _ none 0 0 Try.underlying47]
  simp only [Result.andThen_ok]
  go_wp2_with fail
  go_ret
  exact ⟨rfl,Below.refl _ _⟩
theorem tok77:∀ ds x,o77 ds = some x→Sound Try.prog 77 ds x:=clone_told ⟨_,Try.func77,by decide,rfl⟩ (by decide) (by decide) clone_nil77 clone_some77
theorem tok66:∀ ds x,o66 ds = some x→Sound Try.prog 66 ds x:=by
  intro ds x e
  unfold o66 at e
  split at e
  · rename_i c d n
    obtain ⟨t,ht,rfl⟩:=Option.map_eq_some_iff.1 e
    refine Reads.of_flat ⟨_,Try.func66,by decide,rfl⟩ fun w vs hsz hr=>?_
    obtain ⟨v0,v1,v2,rfl⟩:=arr3 hsz
    have r0:Reads (hw w) v0 c:=hr 0 _ rfl
    have r1:Reads (hw w) v1 (.int .i64 d):=hr 1 _ rfl
    have r2:Reads (hw w) v2 (.int .i64 n):=hr 2 _ rfl
    obtain ⟨cv,rfl,hc⟩:=dTown_city r0 ht
    cases r1
    cases r2
    refine (plusR_calls cv t d n w hc).mono ?_
    rintro e w' ⟨rfl,hb⟩
    exact ⟨⟨_,rfl,fun h=>rd2 (.int _ _) (.int _ _) rfl rfl⟩,hb⟩
  · cases e
theorem tok39:∀ ds x,o39 ds = some x→Sound Try.prog 39 ds x:=by
  intro ds x e
  unfold o39 at e
  split at e
  · rename_i c d n
    obtain ⟨t,ht,rfl⟩:=Option.map_eq_some_iff.1 e
    refine Reads.of_flat ⟨_,Try.func39,by decide,rfl⟩ fun w vs hsz hr=>?_
    obtain ⟨v0,v1,v2,rfl⟩:=arr3 hsz
    have r0:Reads (hw w) v0 c:=hr 0 _ rfl
    have r1:Reads (hw w) v1 (.int .i64 d):=hr 1 _ rfl
    have r2:Reads (hw w) v2 (.int .i64 n):=hr 2 _ rfl
    obtain ⟨cv,rfl,hc⟩:=dTown_city r0 ht
    cases r1
    cases r2
    refine (count_calls cv t d n w hc).mono ?_
    rintro e w' ⟨rfl,hb⟩
    exact ⟨⟨_,rfl,fun h=>rd2 (.int _ _) (.int _ _) rfl rfl⟩,hb⟩
  · cases e
theorem tok37:∀ ds x,o37 ds = some x→Sound Try.prog 37 ds x:=by
  intro ds x e
  unfold o37 at e
  split at e
  · rename_i c d
    obtain ⟨t,ht,rfl⟩:=Option.map_eq_some_iff.1 e
    refine Reads.of_flat ⟨_,Try.func37,by decide,rfl⟩ fun w vs hsz hr=>?_
    obtain ⟨v0,v1,rfl⟩:=arr2 hsz
    have r0:Reads (hw w) v0 c:=hr 0 _ rfl
    have r1:Reads (hw w) v1 (.int .i64 d):=hr 1 _ rfl
    obtain ⟨cv,rfl,hc⟩:=dTown_city r0 ht
    cases r1
    refine (openC_calls cv t d w hc).mono ?_
    rintro e w' ⟨rfl,hb⟩
    exact ⟨⟨_,rfl,fun h=>rd2 (.bool _) (.int _ _) rfl rfl⟩,hb⟩
  · cases e
end Go.Proofs.Ytjllkddmkdajcaa
