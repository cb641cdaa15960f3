/- What is told of functions is so. Printed by a program. -/
import Derived.Test.YtjjcaapdaldedaaTab
import Derived.Test.YtjjcaapdaldedaaVmT
set_option linter.unusedVariables false
set_option linter.unusedSimpArgs false
namespace Go.Proofs.Ytjjcaapdaldedaa
open Vm
open Go.RowKit
open Go.Deep
theorem aLu:(Try.prog.info? 3).map (fun i=>(i.zero,i.size,i.bytes)) = some (some (.int .i64 0),1,8):=by kernel_rfl
set_option maxRecDepth 100000 in
theorem T7 (ad:Addr) (n c:Nat) (w:World) (news:List Value) (hl:news.length = n * 1) (h1:∀ u ∈ news,u.oneCell' = true) (hb:n * 8 <= 140737488355328) (hc:∀ j u,news[j]? = some u->w.cell? (ad.add j) = some u) :
    Calls Try.prog 40 #[.slice (some ad) n c] w fun e w'=>∃ v,e = .returned v ∧ w'.ownsRow w.heap.size 3 1 v n news ∧ Below w.heap.size w w':=by
  have hc:=Lib.hid hc
  have hlH:=Lib.hid hl
  have h1H:=Lib.hid h1
  obtain ⟨i0,hi,hz0,hz1,hz2⟩:=YX aLu
  go_enter Try.func40,Try.ntmps40
  go_wp2_with fail
  rw [run_eql_slice_nil w _ _ (some ad) n c Try.underlying32]
  simp only [Result.andThen_ok]
  go_wp2_with (first
    | (at_builtin
       refine L0 rfl (.tmp 5) (.tmp 6) _ rfl w.heap.size 3 i0 _ 1 8 Try.underlying32 hi hz0 hz1 hz2 rfl (by omega) _ 0 [] rfl (R7 w w.heap.size 3 1 (Nat.le_refl _)) _ n news rfl ?q1 hlH.out h1H.out ?q2 ?q3 ?q4 ?_
       case q1=>exact ⟨some ad,c,rfl,(fun h=>by cases h),fun ad' e j u hj=>by cases e; exact aEn w _ (hc.out j u hj)⟩
       case q2=>omega
       case q3=>omega
       case q4=>simp
       intro v8 w8 own8 gr8))
  go_ret
  rw [Nat.zero_add] at own8
  exact ⟨_,rfl,own8,((Below.refl _ w).alloc (Nat.le_refl _) _).grown gr8 (by simp) (aGa (R7 w w.heap.size 3 1 (Nat.le_refl _)))⟩
set_option maxRecDepth 100000 in
theorem WY (w:World):Calls Try.prog 40 #[.slice none 0 0] w fun e w'=>e = .returned (.slice none 0 0) ∧ Below w.heap.size w w':=by
  go_enter Try.func40,Try.ntmps40
  go_wp2_with fail
  rw [run_eql_slice_nil w _ _ none 0 0 Try.underlying32]
  simp only [Result.andThen_ok]
  go_wp2_with fail
  go_ret
  exact ⟨rfl,Below.refl _ _⟩
theorem aML:∀ ds x,o40 ds = some x->E5 Try.prog 40 ds x:=WK ⟨_,Try.func40,by decide,rfl⟩ (by decide) (by decide) WY T7
end Go.Proofs.Ytjjcaapdaldedaa
