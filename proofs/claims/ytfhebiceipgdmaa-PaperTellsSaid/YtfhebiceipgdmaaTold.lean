/- What is told of functions is so. Printed by a program. -/
import Derived.Test.YtfhebiceipgdmaaTab
import Derived.Test.YtfhebiceipgdmaaVmT
set_option linter.unusedVariables false
set_option linter.unusedSimpArgs false
namespace Go.Proofs.Ytfhebiceipgdmaa
open Vm
open Go.RowKit
open Go.Deep
theorem aJC:(Try.prog.info? 66).map (fun i=>(i.zero,i.size,i.bytes)) = some (some (.agg #[.int .i64 0,.int .i64 0,.int .i64 0,.int .i64 0,.int .i64 0,.int .i64 0,.int .i64 0,.int .i64 0,.int .i64 0]),9,72):=by kernel_rfl
set_option maxRecDepth 100000 in
theorem RT (ad:Addr) (n c:Nat) (w:World) (news:List Value) (hl:news.length = n * 9) (h1:∀ u ∈ news,u.oneCell' = true) (hb:n * 72 ≤ 140737488355328) (hc:∀ j u,news[j]? = some u→w.cell? (ad.add j) = some u) :
    Calls Try.prog 62 #[.slice (some ad) n c] w fun e w'=>∃ v,e = .returned v ∧ w'.ownsRow w.heap.size 66 9 v n news ∧ Below w.heap.size w w':=by
  have hc:=Lib.hid hc
  have hlH:=Lib.hid hl
  have h1H:=Lib.hid h1
  obtain ⟨i0,hi,hz0,hz1,hz2⟩:=info_parts aJC
  go_enter Try.func62,Try.ntmps62
  go_wp2_with fail
  rw [run_eql_slice_nil w _ _ (some ad) n c Try.underlying36]
  simp only [Result.andThen_ok]
  go_wp2_with (first
    | (at_builtin
       refine qR rfl (.tmp 5) (.tmp 6) _ rfl w.heap.size 66 i0 _ 9 72 Try.underlying36 hi hz0 hz1 hz2 rfl (by omega) _ 0 [] rfl (vG w w.heap.size 66 9 (Nat.le_refl _)) _ n news rfl ?q1 hlH.out h1H.out ?q2 ?q3 ?q4 ?_
       case q1=>exact ⟨some ad,c,rfl,(fun h=>by cases h),fun ad' e j u hj=>by cases e; exact J5 w _ (hc.out j u hj)⟩
       case q2=>omega
       case q3=>omega
       case q4=>simp
       intro v8 w8 own8 gr8))
  go_ret
  rw [Nat.zero_add] at own8
  exact ⟨_,rfl,own8,((Below.refl _ w).alloc (Nat.le_refl _) _).grown gr8 (by simp) (JL (vG w w.heap.size 66 9 (Nat.le_refl _)))⟩
set_option maxRecDepth 100000 in
theorem TR (w:World):Calls Try.prog 62 #[.slice none 0 0] w fun e w'=>e = .returned (.slice none 0 0) ∧ Below w.heap.size w w':=by
  go_enter Try.func62,Try.ntmps62
  go_wp2_with fail
  rw [run_eql_slice_nil w _ _ none 0 0 Try.underlying36]
  simp only [Result.andThen_ok]
  go_wp2_with fail
  go_ret
  exact ⟨rfl,Below.refl _ _⟩
theorem aLi:∀ ds x,o62 ds = some x→rZ Try.prog 62 ds x:=BQ ⟨_,Try.func62,by decide,rfl⟩ (by decide) (by decide) TR RT
theorem aJk:(Try.prog.info? 72).map (fun i=>(i.zero,i.size,i.bytes)) = some (some (.agg #[.int .i64 0,.int .i64 0]),2,16):=by kernel_rfl
set_option maxRecDepth 100000 in
theorem RU (ad:Addr) (n c:Nat) (w:World) (news:List Value) (hl:news.length = n * 2) (h1:∀ u ∈ news,u.oneCell' = true) (hb:n * 16 ≤ 140737488355328) (hc:∀ j u,news[j]? = some u→w.cell? (ad.add j) = some u) :
    Calls Try.prog 63 #[.slice (some ad) n c] w fun e w'=>∃ v,e = .returned v ∧ w'.ownsRow w.heap.size 72 2 v n news ∧ Below w.heap.size w w':=by
  have hc:=Lib.hid hc
  have hlH:=Lib.hid hl
  have h1H:=Lib.hid h1
  obtain ⟨i0,hi,hz0,hz1,hz2⟩:=info_parts aJk
  go_enter Try.func63,Try.ntmps63
  go_wp2_with fail
  rw [run_eql_slice_nil w _ _ (some ad) n c Try.underlying37]
  simp only [Result.andThen_ok]
  go_wp2_with (first
    | (at_builtin
       refine qR rfl (.tmp 5) (.tmp 6) _ rfl w.heap.size 72 i0 _ 2 16 Try.underlying37 hi hz0 hz1 hz2 rfl (by omega) _ 0 [] rfl (vG w w.heap.size 72 2 (Nat.le_refl _)) _ n news rfl ?q1 hlH.out h1H.out ?q2 ?q3 ?q4 ?_
       case q1=>exact ⟨some ad,c,rfl,(fun h=>by cases h),fun ad' e j u hj=>by cases e; exact J5 w _ (hc.out j u hj)⟩
       case q2=>omega
       case q3=>omega
       case q4=>simp
       intro v8 w8 own8 gr8))
  go_ret
  rw [Nat.zero_add] at own8
  exact ⟨_,rfl,own8,((Below.refl _ w).alloc (Nat.le_refl _) _).grown gr8 (by simp) (JL (vG w w.heap.size 72 2 (Nat.le_refl _)))⟩
set_option maxRecDepth 100000 in
theorem SP (w:World):Calls Try.prog 63 #[.slice none 0 0] w fun e w'=>e = .returned (.slice none 0 0) ∧ Below w.heap.size w w':=by
  go_enter Try.func63,Try.ntmps63
  go_wp2_with fail
  rw [run_eql_slice_nil w _ _ none 0 0 Try.underlying37]
  simp only [Result.andThen_ok]
  go_wp2_with fail
  go_ret
  exact ⟨rfl,Below.refl _ _⟩
theorem aLK:∀ ds x,o63 ds = some x→rZ Try.prog 63 ds x:=BQ ⟨_,Try.func63,by decide,rfl⟩ (by decide) (by decide) SP RU
theorem aJw:(Try.prog.info? 81).map (fun i=>(i.zero,i.size,i.bytes)) = some (some (.agg #[.int .i64 0,.int .i64 0,.int .i64 0,.int .i64 0,.int .i64 0,.int .i64 0,.int .i64 0,.int .i64 0,.int .i64 0]),9,72):=by kernel_rfl
set_option maxRecDepth 100000 in
theorem QZ (ad:Addr) (n c:Nat) (w:World) (news:List Value) (hl:news.length = n * 9) (h1:∀ u ∈ news,u.oneCell' = true) (hb:n * 72 ≤ 140737488355328) (hc:∀ j u,news[j]? = some u→w.cell? (ad.add j) = some u) :
    Calls Try.prog 64 #[.slice (some ad) n c] w fun e w'=>∃ v,e = .returned v ∧ w'.ownsRow w.heap.size 81 9 v n news ∧ Below w.heap.size w w':=by
  have hc:=Lib.hid hc
  have hlH:=Lib.hid hl
  have h1H:=Lib.hid h1
  obtain ⟨i0,hi,hz0,hz1,hz2⟩:=info_parts aJw
  go_enter Try.func64,Try.ntmps64
  go_wp2_with fail
  rw [run_eql_slice_nil w _ _ (some ad) n c Try.underlying38]
  simp only [Result.andThen_ok]
  go_wp2_with (first
    | (at_builtin
       refine qR rfl (.tmp 5) (.tmp 6) _ rfl w.heap.size 81 i0 _ 9 72 Try.underlying38 hi hz0 hz1 hz2 rfl (by omega) _ 0 [] rfl (vG w w.heap.size 81 9 (Nat.le_refl _)) _ n news rfl ?q1 hlH.out h1H.out ?q2 ?q3 ?q4 ?_
       case q1=>exact ⟨some ad,c,rfl,(fun h=>by cases h),fun ad' e j u hj=>by cases e; exact J5 w _ (hc.out j u hj)⟩
       case q2=>omega
       case q3=>omega
       case q4=>simp
       intro v8 w8 own8 gr8))
  go_ret
  rw [Nat.zero_add] at own8
  exact ⟨_,rfl,own8,((Below.refl _ w).alloc (Nat.le_refl _) _).grown gr8 (by simp) (JL (vG w w.heap.size 81 9 (Nat.le_refl _)))⟩
set_option maxRecDepth 100000 in
theorem U9 (w:World):Calls Try.prog 64 #[.slice none 0 0] w fun e w'=>e = .returned (.slice none 0 0) ∧ Below w.heap.size w w':=by
  go_enter Try.func64,Try.ntmps64
  go_wp2_with fail
  rw [run_eql_slice_nil w _ _ none 0 0 Try.underlying38]
  simp only [Result.andThen_ok]
  go_wp2_with fail
  go_ret
  exact ⟨rfl,Below.refl _ _⟩
theorem aMe:∀ ds x,o64 ds = some x→rZ Try.prog 64 ds x:=BQ ⟨_,Try.func64,by decide,rfl⟩ (by decide) (by decide) U9 QZ
theorem aJS:(Try.prog.info? 58).map (fun i=>(i.zero,i.size,i.bytes)) = some (some (.agg #[.int .i64 0,.int .i64 0,.int .i64 0]),3,24):=by kernel_rfl
set_option maxRecDepth 100000 in
theorem R5 (ad:Addr) (n c:Nat) (w:World) (news:List Value) (hl:news.length = n * 3) (h1:∀ u ∈ news,u.oneCell' = true) (hb:n * 24 ≤ 140737488355328) (hc:∀ j u,news[j]? = some u→w.cell? (ad.add j) = some u) :
    Calls Try.prog 65 #[.slice (some ad) n c] w fun e w'=>∃ v,e = .returned v ∧ w'.ownsRow w.heap.size 58 3 v n news ∧ Below w.heap.size w w':=by
  have hc:=Lib.hid hc
  have hlH:=Lib.hid hl
  have h1H:=Lib.hid h1
  obtain ⟨i0,hi,hz0,hz1,hz2⟩:=info_parts aJS
  go_enter Try.func65,Try.ntmps65
  go_wp2_with fail
  rw [run_eql_slice_nil w _ _ (some ad) n c Try.underlying39]
  simp only [Result.andThen_ok]
  go_wp2_with (first
    | (at_builtin
       refine qR rfl (.tmp 5) (.tmp 6) _ rfl w.heap.size 58 i0 _ 3 24 Try.underlying39 hi hz0 hz1 hz2 rfl (by omega) _ 0 [] rfl (vG w w.heap.size 58 3 (Nat.le_refl _)) _ n news rfl ?q1 hlH.out h1H.out ?q2 ?q3 ?q4 ?_
       case q1=>exact ⟨some ad,c,rfl,(fun h=>by cases h),fun ad' e j u hj=>by cases e; exact J5 w _ (hc.out j u hj)⟩
       case q2=>omega
       case q3=>omega
       case q4=>simp
       intro v8 w8 own8 gr8))
  go_ret
  rw [Nat.zero_add] at own8
  exact ⟨_,rfl,own8,((Below.refl _ w).alloc (Nat.le_refl _) _).grown gr8 (by simp) (JL (vG w w.heap.size 58 3 (Nat.le_refl _)))⟩
set_option maxRecDepth 100000 in
theorem SS (w:World):Calls Try.prog 65 #[.slice none 0 0] w fun e w'=>e = .returned (.slice none 0 0) ∧ Below w.heap.size w w':=by
  go_enter Try.func65,Try.ntmps65
  go_wp2_with fail
  rw [run_eql_slice_nil w _ _ none 0 0 Try.underlying39]
  simp only [Result.andThen_ok]
  go_wp2_with fail
  go_ret
  exact ⟨rfl,Below.refl _ _⟩
theorem aLO:∀ ds x,o65 ds = some x→rZ Try.prog 65 ds x:=BQ ⟨_,Try.func65,by decide,rfl⟩ (by decide) (by decide) SS R5
end Go.Proofs.Ytfhebiceipgdmaa
