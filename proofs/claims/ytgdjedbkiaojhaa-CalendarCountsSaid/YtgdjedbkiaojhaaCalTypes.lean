/- How a city that a call is handed reads. Printed by a program of this work (types.py). -/
import Derived.Test.YtgdjedbkiaojhaaData
set_option linter.unusedVariables false
namespace Go.Proofs.Ytgdjedbkiaojhaa
open Go.RowKit Go.ChangeShapes Go.WideShapes Go.Deep

/-- Go's allonge/api.City -/
structure CityD where
  name : ByteArray
  order : Int
  currency : Int
  rest : (List Int)
  feasts : (List Int)
  shut : (List Int)
def CityTV (w : World) (x : CityD) (cs : List Value) : Prop :=
  ∃ v0 v1 v2 : Value, cs = [.string x.name, .int .i64 x.order, .int .i64 x.currency, v0, v1, v2] ∧ x.name.size ≤ maxLen ∧ (Lit.int .i64 x.order).wf = true ∧ (Lit.int .i64 x.currency).wf = true ∧ Sl w IntTV 1 v0 x.rest ∧ Sl w IntTV 1 v1 x.feasts ∧ Sl w IntTV 1 v2 x.shut
theorem CityTV.steady : Steady CityTV := by
  intro A B x cs h hx
  obtain ⟨v0, v1, v2, e, q0, q1, q2, q3, q4, q5⟩ := hx
  exact ⟨v0, v1, v2, e, q0, q1, q2, q3.to IntTV.steady h, q4.to IntTV.steady h, q5.to IntTV.steady h⟩
theorem opens_City : Opens Try.prog 34 CityTV := fun H enc w base sp held fuel cs x h => by
  obtain ⟨xs, n, _, _, hlen, hxl, hf⟩ := DataW.trod_struct Try.underlying34 h
  have hl : cs.length = 6 := hlen.trans (by kernel_rfl)
  match cs, hl with
  | [c0, c1, c2, c3, c4, c5], _ =>
    obtain ⟨y0, hy0⟩ : ∃ y, xs[0]? = some y := ⟨xs[0]'(by rw [hxl]; simp), by simp⟩
    have f0 : DataW.trod enc Try.prog w base sp held n 9 ((List.drop 0 [c0, c1, c2, c3, c4, c5]).take (Try.prog.cellsOf 9)) = some y0 := (hf 0 _ rfl).trans hy0
    rw [show Try.prog.cellsOf 9 = 1 from by kernel_rfl] at f0
    obtain ⟨d0, t0⟩ := (opens_str Try.underlying9) H enc w base sp held n _ _ f0
    obtain ⟨y1, hy1⟩ : ∃ y, xs[1]? = some y := ⟨xs[1]'(by rw [hxl]; simp), by simp⟩
    have f1 : DataW.trod enc Try.prog w base sp held n 3 ((List.drop 1 [c0, c1, c2, c3, c4, c5]).take (Try.prog.cellsOf 3)) = some y1 := (hf 1 _ rfl).trans hy1
    rw [show Try.prog.cellsOf 3 = 1 from by kernel_rfl] at f1
    obtain ⟨d1, t1⟩ := (opens_int Try.underlying3) H enc w base sp held n _ _ f1
    obtain ⟨y2, hy2⟩ : ∃ y, xs[2]? = some y := ⟨xs[2]'(by rw [hxl]; simp), by simp⟩
    have f2 : DataW.trod enc Try.prog w base sp held n 3 ((List.drop 2 [c0, c1, c2, c3, c4, c5]).take (Try.prog.cellsOf 3)) = some y2 := (hf 2 _ rfl).trans hy2
    rw [show Try.prog.cellsOf 3 = 1 from by kernel_rfl] at f2
    obtain ⟨d2, t2⟩ := (opens_int Try.underlying3) H enc w base sp held n _ _ f2
    obtain ⟨y3, hy3⟩ : ∃ y, xs[3]? = some y := ⟨xs[3]'(by rw [hxl]; simp), by simp⟩
    have f3 : DataW.trod enc Try.prog w base sp held n 32 ((List.drop 3 [c0, c1, c2, c3, c4, c5]).take (Try.prog.cellsOf 32)) = some y3 := (hf 3 _ rfl).trans hy3
    rw [show Try.prog.cellsOf 32 = 1 from by kernel_rfl] at f3
    obtain ⟨d3, t3⟩ := (opens_slice (k := 1) Try.underlying32 (by kernel_rfl) (by omega) (opens_int Try.underlying3)) H enc w base sp held n _ _ f3
    obtain ⟨y4, hy4⟩ : ∃ y, xs[4]? = some y := ⟨xs[4]'(by rw [hxl]; simp), by simp⟩
    have f4 : DataW.trod enc Try.prog w base sp held n 32 ((List.drop 4 [c0, c1, c2, c3, c4, c5]).take (Try.prog.cellsOf 32)) = some y4 := (hf 4 _ rfl).trans hy4
    rw [show Try.prog.cellsOf 32 = 1 from by kernel_rfl] at f4
    obtain ⟨d4, t4⟩ := (opens_slice (k := 1) Try.underlying32 (by kernel_rfl) (by omega) (opens_int Try.underlying3)) H enc w base sp held n _ _ f4
    obtain ⟨y5, hy5⟩ : ∃ y, xs[5]? = some y := ⟨xs[5]'(by rw [hxl]; simp), by simp⟩
    have f5 : DataW.trod enc Try.prog w base sp held n 32 ((List.drop 5 [c0, c1, c2, c3, c4, c5]).take (Try.prog.cellsOf 32)) = some y5 := (hf 5 _ rfl).trans hy5
    rw [show Try.prog.cellsOf 32 = 1 from by kernel_rfl] at f5
    obtain ⟨d5, t5⟩ := (opens_slice (k := 1) Try.underlying32 (by kernel_rfl) (by omega) (opens_int Try.underlying3)) H enc w base sp held n _ _ f5
    obtain ⟨e0, q0⟩ := t0
    obtain ⟨e1, q1⟩ := t1
    obtain ⟨e2, q2⟩ := t2
    obtain ⟨u3, e3, q3⟩ := t3
    obtain ⟨u4, e4, q4⟩ := t4
    obtain ⟨u5, e5, q5⟩ := t5
    simp at e0 e1 e2 e3 e4 e5
    exact ⟨⟨d0, d1, d2, d3, d4, d5⟩, u3, u4, u5, by simp [e0, e1, e2, e3, e4, e5], q0, q1, q2, q3, q4, q5⟩


end Go.Proofs.Ytgdjedbkiaojhaa
