/- A city that a law is handed: its cells; where its lists are short it reads as the walks want it. -/
import Derived.Test.YtgdjedbkiaojhaaCalTypes
import Derived.Test.YtgdjedbkiaojhaaCalC
set_option linter.unusedVariables false
namespace Go.Proofs.Ytgdjedbkiaojhaa
open Go.RowKit

theorem Sl.slice {α : Type} {w : World} {TV : World → α → List Value → Prop} {k : Nat} {v : Value} {xs : List α} (h : Sl w TV k v xs) : ∃ a c, v = .slice a xs.length c := by
  rcases h with ⟨a, c, rfl, _, rfl⟩ | ⟨b, off, c, rfl, _⟩
  · exact ⟨a, c, rfl⟩
  · exact ⟨_, c, rfl⟩
theorem Sl.ints {w : World} {v : Value} {xs : List Int} (h : Sl w IntTV 1 v xs) (hl : xs.length ≤ 140737488355328) : Ints w v xs := by
  refine ⟨hl, ?_⟩
  rcases h with ⟨a, c, rfl, _, rfl⟩ | ⟨b, off, c, rfl, hc⟩
  · exact .inl ⟨a, c, rfl, rfl⟩
  · refine .inr ⟨b, off, c, rfl, fun j hj => ?_⟩
    obtain ⟨cs, ⟨rfl, _⟩, _, h3⟩ := hc j (xs[j]) (by simp)
    have := h3 0 (by omega)
    rw [at0_lt xs j hj]
    simpa using this
theorem city_open {w : World} {x : CityD} {cs : Array Value} (h : CityTV w x cs.toList) :
    ∃ (nm : ByteArray) (o cu : Int) (ra fa sa : Option Addr) (rc fc sc : Nat), cs = #[.string nm, .int .i64 o, .int .i64 cu, .slice ra x.rest.length rc, .slice fa x.feasts.length fc, .slice sa x.shut.length sc] ∧
      (x.rest.length ≤ 40 → x.feasts.length ≤ 40 → x.shut.length ≤ 40 → CityV w (.agg cs) ⟨x.rest, x.feasts, x.shut⟩) := by
  obtain ⟨v0, v1, v2, e, q0, q1, q2, q3, q4, q5⟩ := h
  obtain ⟨ra, rc, rfl⟩ := q3.slice
  obtain ⟨fa, fc, rfl⟩ := q4.slice
  obtain ⟨sa, sc, rfl⟩ := q5.slice
  obtain rfl : cs = #[.string x.name, .int .i64 x.order, .int .i64 x.currency, .slice ra x.rest.length rc, .slice fa x.feasts.length fc, .slice sa x.shut.length sc] := by
    cases cs; simpa using e
  exact ⟨_, _, _, ra, fa, sa, rc, fc, sc, rfl, fun h1 h2 h3 => ⟨_, _, _, _, _, _, rfl, q3.ints (by show x.rest.length ≤ _; omega), q4.ints (by show x.feasts.length ≤ _; omega), q5.ints (by show x.shut.length ≤ _; omega)⟩⟩
theorem wf_i64 {n : Int} (h : (Lit.int .i64 n).wf = true) : -9223372036854775808 ≤ n ∧ n ≤ 9223372036854775807 := by
  simp [Lit.wf, IntKind.min, IntKind.max, IntKind.signed, IntKind.bits] at h
  exact ⟨by omega, by omega⟩
theorem wf_u16 {n : Int} (h : (Lit.int .u16 n).wf = true) : 0 ≤ n ∧ n ≤ 65535 := by
  simp [Lit.wf, IntKind.min, IntKind.max, IntKind.signed, IntKind.bits] at h
  exact ⟨by omega, by omega⟩
end Go.Proofs.Ytgdjedbkiaojhaa
