/- CalendarNext: for all cities and days, the law answers true, and its arguments read as they did. -/
import Derived.Test.YtgdjedbkiaojhaaRows
import Derived.Test.YtgdjedbkiaojhaaLawNext
import Derived.Test.YtgdjedbkiaojhaaCalOpen
set_option linter.unusedVariables false
namespace Go.Proofs.Ytgdjedbkiaojhaa
open Go.ChangeShapes Go.WideShapes Go.ChangeAt Go.RowKit

theorem next_top (w : World) (cs : Array Value) (x : CityD) (hx : CityTV w x cs.toList) (d : Int) (_ : (Lit.int .i64 d).wf = true) :
    Calls Try.prog 6 #[.agg cs, .int .i64 d] w fun e w' => e = .returned (.bool true) ∧ Below w.heap.size w w' := by
  obtain ⟨nm, o, cu, ra, fa, sa, rc, fc, sc, rfl, hc⟩ := city_open hx
  cases hf : (decide (x.rest.length ≤ 40) && decide (x.feasts.length ≤ 40) && decide (x.shut.length ≤ 40)) with
  | true =>
    have hf' := hf
    simp only [Bool.and_eq_true, decide_eq_true_eq] at hf'
    exact next_short _ _ _ _ nm o cu ra fa sa rc fc sc d w hf (hc hf'.1.1 hf'.1.2 hf'.2)
  | false => exact next_long _ _ _ nm o cu ra fa sa rc fc sc d w hf

namespace CalendarNextRow
theorem own : ownKnob Try.prog.godebug = none := by kernel_rfl
theorem laidOut : laidOutB Try.prog = true := by kernel_rfl
set_option maxRecDepth 100000 in
theorem lifted (os : Os) (started : os.Started) (H : Type) (enc : TypeId × Value → H) :
    ReturnsInHanded {} Try.checked os 6 .any (Rows.calendarNextSpec.pre6 enc Try.prog Try.f6 Rows.calendarNextRow.domain false) (Rows.calendarNextSpec.post enc Try.prog Try.f6 false true false false) := by
  refine returnsInHanded_of_change (C := Try.checked) own started (by kernel_rfl) Try.func6
    (ChangeSpec.witness6 (enc := enc) (C := Try.checked) false ⟨#[], #[.agg #[.string ByteArray.empty, .int .i64 0, .int .i64 0, .slice none 0 0, .slice none 0 0, .slice none 0 0], .int .i64 0], []⟩ 8 (by kernel_rfl) (by kernel_rfl) (by kernel_rfl) (by kernel_rfl)) ?_
  intro W base args ds gs before hval0 hW hcnd _
  have hval : ∀ (j : Nat) t v, Try.f6.params[j]? = some t → args[j]? = some v → Value.okWide Try.prog W .any base t v := hval0
  have hW' := hW
  obtain ⟨p, q, hA0, hV, rfl, hfz, hnd⟩ := hW
  have hA : DataW.TrodAll enc Try.prog W 0 (fun _ => true) true Try.f6.params.toList args.toList ds p := hA0
  rw [Try.params6] at hA hval
  obtain ⟨v0, vs0, d0, ds0, p0, q0, hargs, rfl, rfl, h0, r0⟩ := trodAll_cons hA
  obtain ⟨v1, vs1, d1, ds1, p1, q1, rfl, rfl, rfl, h1, r1⟩ := trodAll_cons r0
  obtain ⟨rfl, rfl, rfl⟩ := trodAll_nil r1
  obtain rfl : args = #[v0, v1] := by cases args; simp_all
  obtain ⟨rfl, rfl⟩ := trodVars_none hV
  have k0 := h0
  have lt0 : ∀ x ∈ p0, x.block < W.heap.size := by obtain ⟨m, hm⟩ := k0; exact DataW.trod_lt m _ _ _ hm
  obtain ⟨cs0, rfl, _⟩ := okWide_struct Try.underlying34 (hval 0 34 v0 rfl rfl)
  obtain ⟨a0, w0⟩ : ∃ x, CityTV W x cs0.toList := by
    obtain ⟨m, hm⟩ := h0
    exact opens_City H enc W _ _ _ m _ _ (by simpa [Value.cells] using hm)
  have k1 := h1
  have lt1 : ∀ x ∈ p1, x.block < W.heap.size := by obtain ⟨m, hm⟩ := k1; exact DataW.trod_lt m _ _ _ hm
  obtain ⟨a1, rfl, rfl, rfl, w1⟩ := open_int Try.underlying3 (hval 1 3 v1 rfl rfl) h1
  clear hA0 hval0
  refine (next_top W cs0 a0 w0 a1 w1).mono fun e W' ⟨he, bel⟩ => ?_
  subst he
  exact ⟨_, rfl, _, _, _, [], _, [], hW', trodAll_mk1 (shut_bool Try.underlying4 _), (trodAll_cons_mk (Below.trod laidOut (by kernel_rfl) (of_decide_eq_true (by kernel_rfl)) k0 bel lt0) (trodAll_cons_mk (Below.trod laidOut (by kernel_rfl) (of_decide_eq_true (by kernel_rfl)) k1 bel lt1) trodAll_mk0)), rfl, bel.frame _, fun h => by cases h⟩
end CalendarNextRow
/-- the given statement -/
theorem calendarNext_holds : Rows.CalendarNextSaid :=
  OpenClaim.holds_of_wide 6 Try.f6 rfl rfl rfl rfl rfl rfl rfl ⟨rfl, rfl, rfl, rfl, rfl⟩ rfl rfl rfl rfl rfl (by kernel_rfl) Try.func6 (by kernel_rfl)
    (of_decide_eq_true (by kernel_rfl)) (by unfold Func.isWrapper; first | (rw [if_pos (by decide +kernel)]; kernel_rfl) | (rw [if_neg (by decide +kernel)]; exact ⟨rfl, rfl⟩))
    (fun os started H enc _ => CalendarNextRow.lifted os started H enc)
#print axioms calendarNext_holds

end Go.Proofs.Ytgdjedbkiaojhaa
