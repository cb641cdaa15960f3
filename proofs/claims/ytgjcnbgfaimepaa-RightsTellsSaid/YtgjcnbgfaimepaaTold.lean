/- What is told of functions is so. Printed by a program. -/
import Derived.Test.YtgjcnbgfaimepaaTab
import Derived.Test.YtgjcnbgfaimepaaVmT
import Derived.Test.YtgjcnbgfaimepaaRepA
set_option linter.unusedVariables false
set_option linter.unusedSimpArgs false
namespace Go.Proofs.Ytgjcnbgfaimepaa
open Vm
open Go.RowKit
open Go.Deep
theorem aQ0:∀ ds x,aRv ds = some x->HV Try.prog 109 ds x:=aLi
theorem aRl:(Try.prog.info? 3).map (fun i=>(i.zero,i.size,i.bytes)) = some (some (.int .i64 0),1,8):=by kernel_rfl
set_option maxRecDepth 100000 in
theorem aBz (ad:Addr) (n c:Nat) (w:World) (news:List Value) (hl:news.length = n * 1) (h1:∀ u ∈ news,u.oneCell' = true) (hb:n * 8 <= 140737488355328) (hc:∀ j u,news[j]? = some u->w.cell? (ad.add j) = some u) :
    Calls Try.prog 49 #[.slice (some ad) n c] w fun e w'=>∃ v,e = .returned v ∧ w'.ownsRow w.heap.size 3 1 v n news ∧ Below w.heap.size w w':=by
  have hc:=Lib.hid hc
  have hlH:=Lib.hid hl
  have h1H:=Lib.hid h1
  obtain ⟨i0,hi,hz0,hz1,hz2⟩:=aFW aRl
  go_enter Try.func49,Try.ntmps49
  go_wp2_with fail
  rw [run_eql_slice_nil w _ _ (some ad) n c Try.underlying23]
  simp only [Result.andThen_ok]
  go_wp2_with (first
    | (at_builtin
       refine S4 rfl (.tmp 5) (.tmp 6) _ rfl w.heap.size 3 i0 _ 1 8 Try.underlying23 hi hz0 hz1 hz2 rfl (by omega) _ 0 [] rfl (aA6 w w.heap.size 3 1 (Nat.le_refl _)) _ n news rfl ?q1 hlH.out h1H.out ?q2 ?q3 ?q4 ?_
       case q1=>exact ⟨some ad,c,rfl,(fun h=>by cases h),fun ad' e j u hj=>by cases e; exact aJA w _ (hc.out j u hj)⟩
       case q2=>omega
       case q3=>omega
       case q4=>simp
       intro v8 w8 own8 gr8))
  go_ret
  rw [Nat.zero_add] at own8
  exact ⟨_,rfl,own8,((Below.refl _ w).alloc (Nat.le_refl _) _).grown gr8 (by simp) (aLC (aA6 w w.heap.size 3 1 (Nat.le_refl _)))⟩
set_option maxRecDepth 100000 in
theorem aCr (w:World):Calls Try.prog 49 #[.slice none 0 0] w fun e w'=>e = .returned (.slice none 0 0) ∧ Below w.heap.size w w':=by
  go_enter Try.func49,Try.ntmps49
  go_wp2_with fail
  rw [run_eql_slice_nil w _ _ none 0 0 Try.underlying23]
  simp only [Result.andThen_ok]
  go_wp2_with fail
  go_ret
  exact ⟨rfl,Below.refl _ _⟩
theorem aSF:∀ ds x,o49 ds = some x->HV Try.prog 49 ds x:=aCm ⟨_,Try.func49,by decide,rfl⟩ (by decide) (by decide) aCr aBz
end Go.Proofs.Ytgjcnbgfaimepaa
