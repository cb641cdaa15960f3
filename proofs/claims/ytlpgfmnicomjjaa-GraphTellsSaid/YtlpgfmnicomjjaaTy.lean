/- How what a law is handed reads. Printed by a program. -/
import Derived.Test.YtlpgfmnicomjjaaVmG
import Derived.Test.YtlpgfmnicomjjaaTab
import Derived.KernelRfl
set_option linter.unusedVariables false
set_option maxRecDepth 100000
namespace Go.Proofs.Ytlpgfmnicomjjaa
open Go.RowKit Go.ChangeShapes Go.WideShapes Go.Deep Vm
def GArr2I.TV (w:World) (x:GArr2I) (cs:List Value):Prop :=
 cs = [.int .i64 x.e0,.int .i64 x.e1] ∧ (Lit.int .i64 x.e0).wf = true ∧ (Lit.int .i64 x.e1).wf = true
def GArr2I.wf (x:GArr2I):Prop:=I64 x.e0 ∧ I64 x.e1
theorem GArr2I.TV_wf (w:World) (x:GArr2I) (cs:List Value) (h:GArr2I.TV w x cs):GArr2I.wf x:=by
 obtain ⟨e,q0,q1⟩:=h
 exact ⟨wf_i64 q0,wf_i64 q1⟩
theorem GArr2I.rds:Rds GArr2I.TV GArr2I.cells 2:=fun w x cs h=>by
 obtain ⟨e,q0,q1⟩:=h
 subst e
 exact ⟨RdC.cons (.int _ _) rfl (RdC.cons (.int _ _) rfl (RdC.nil _)),rfl⟩
theorem opens_GArr2I:Opens Try.prog 67 GArr2I.TV:=fun H enc w base sp held fuel cs x h hL=>by
 obtain ⟨xs,n,hfuel,hxx,hlen,hxl,hf⟩:=DataW.trod_array Try.underlying67 h
 subst hxx
 have hl:cs.length = 2:=hlen.trans (by kernel_rfl)
 match cs,hl with
 | [c0,c1],_ =>
  obtain ⟨y0,hy0⟩ : ∃ y,xs[0]? = some y:=⟨xs[0]'(by rw [hxl]; simp),by simp⟩
  have f0:DataW.trod enc Try.prog w base sp held n 3 ((List.drop (0 * Try.prog.cellsOf 3) [c0,c1]).take (Try.prog.cellsOf 3)) = some y0:=(hf 0 (by decide)).trans hy0
  rw [show Try.prog.cellsOf 3 = 1 from by kernel_rfl] at f0
  have g0:=Light.elem (P:=Try.prog) Try.underlying67 (i:=0) hy0 hL
  obtain ⟨d0,t0⟩:=(opens_int Try.underlying3) H enc w base sp held n _ _ f0 g0
  obtain ⟨y1,hy1⟩ : ∃ y,xs[1]? = some y:=⟨xs[1]'(by rw [hxl]; simp),by simp⟩
  have f1:DataW.trod enc Try.prog w base sp held n 3 ((List.drop (1 * Try.prog.cellsOf 3) [c0,c1]).take (Try.prog.cellsOf 3)) = some y1:=(hf 1 (by decide)).trans hy1
  rw [show Try.prog.cellsOf 3 = 1 from by kernel_rfl] at f1
  have g1:=Light.elem (P:=Try.prog) Try.underlying67 (i:=1) hy1 hL
  obtain ⟨d1,t1⟩:=(opens_int Try.underlying3) H enc w base sp held n _ _ f1 g1
  obtain ⟨e0,q0⟩:=t0
  obtain ⟨e1,q1⟩:=t1
  simp at e0 e1
  exact ⟨⟨d0,d1⟩,by simp [e0,e1],q0,q1⟩
end Go.Proofs.Ytlpgfmnicomjjaa
