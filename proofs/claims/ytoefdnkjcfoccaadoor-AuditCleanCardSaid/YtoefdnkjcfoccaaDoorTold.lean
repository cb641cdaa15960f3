/- Told functions. -/
import Derived.Test.YtoefdnkjcfoccaaDoorTab
import Derived.Test.YtoefdnkjcfoccaaDoorVmT
import Derived.Test.YtoefdnkjcfoccaaDoorConcatA
set_option linter.unusedVariables false
set_option linter.unusedSimpArgs false
namespace Go.Proofs.YtoefdnkjcfoccaaDoor
open Vm
open Go.RowKit
open Go.Deep
theorem aRh:(Tryd.prog.info? 3).map (fun i=>(i.zero,i.size,i.bytes)) = some (some (.int .i64 0),1,8):=by kernel_rfl
set_option maxRecDepth 100000 in
theorem YM (ad:Addr) (n c:Nat) (w:World) (news:List Value) (hl:news.length = n * 1) (h1:∀ u ∈ news,u.oneCell' = true) (hb:n * 8 <= 140737488355328) (hc:∀ j u,news[j]? = some u->w.cell? (ad.add j) = some u) :
    Calls Tryd.prog 42 #[.slice (some ad) n c] w fun e w'=>∃ v,e = .returned v ∧ w'.ownsRow w.heap.size 3 1 v n news ∧ Below w.heap.size w w':=by
  have hc:=Lib.hid hc
  have hlH:=Lib.hid hl
  have h1H:=Lib.hid h1
  obtain ⟨i0,hi,hz0,hz1,hz2⟩:=MY aRh
  go_enter Tryd.func42,Tryd.ntmps42
  go_wp2_with fail
  rw [run_eql_slice_nil w _ _ (some ad) n c Tryd.underlying32]
  simp only [Result.andThen_ok]
  go_wp2_with (first
    | (at_builtin
       refine EL rfl (.tmp 5) (.tmp 6) _ rfl w.heap.size 3 i0 _ 1 8 Tryd.underlying32 hi hz0 hz1 hz2 rfl (by omega) _ 0 [] rfl (V4 w w.heap.size 3 1 (Nat.le_refl _)) _ n news rfl ?q1 hlH.out h1H.out ?q2 ?q3 ?q4 ?_
       case q1=>exact ⟨some ad,c,rfl,(fun h=>by cases h),fun ad' e j u hj=>by cases e; exact aJT w _ (hc.out j u hj)⟩
       case q2=>omega
       case q3=>omega
       case q4=>simp
       intro v8 w8 own8 gr8))
  go_ret
  rw [Nat.zero_add] at own8
  exact ⟨_,rfl,own8,((Below.refl _ w).alloc (Nat.le_refl _) _).grown gr8 (by simp) (aBA (V4 w w.heap.size 3 1 (Nat.le_refl _)))⟩
set_option maxRecDepth 100000 in
theorem Z4 (w:World):Calls Tryd.prog 42 #[.slice none 0 0] w fun e w'=>e = .returned (.slice none 0 0) ∧ Below w.heap.size w w':=by
  go_enter Tryd.func42,Tryd.ntmps42
  go_wp2_with fail
  rw [run_eql_slice_nil w _ _ none 0 0 Tryd.underlying32]
  simp only [Result.andThen_ok]
  go_wp2_with fail
  go_ret
  exact ⟨rfl,Below.refl _ _⟩
theorem aUL:∀ ds x,o42 ds = some x->uJ Tryd.prog 42 ds x:=aAF ⟨_,Tryd.func42,by decide,rfl⟩ (by decide) (by decide) Z4 YM
theorem aTT:∀ ds x,o63 ds = some x->uJ Tryd.prog 63 ds x:=aIP
end Go.Proofs.YtoefdnkjcfoccaaDoor
