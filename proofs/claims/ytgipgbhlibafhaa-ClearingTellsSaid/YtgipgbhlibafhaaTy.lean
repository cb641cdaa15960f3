/- How what a law is handed reads. Printed by a program. -/
import Derived.Test.YtgipgbhlibafhaaVmG
import Derived.Test.YtgipgbhlibafhaaTab
import Derived.KernelRfl
set_option linter.unusedVariables false
set_option maxRecDepth 100000
namespace Go.Proofs.Ytgipgbhlibafhaa
open Go.RowKit Go.ChangeShapes Go.WideShapes Go.Deep Vm
def GDue.TV (w:World) (x:GDue) (cs:List Value):Prop :=
 cs = [.int .i64 x.From,.int .i64 x.To,.int .i64 x.Sum] ∧ (Lit.int .i64 x.From).wf = true ∧ (Lit.int .i64 x.To).wf = true ∧ (Lit.int .i64 x.Sum).wf = true
def GDue.wf (x:GDue):Prop:=I64 x.From ∧ I64 x.To ∧ I64 x.Sum
theorem GDue.TV_wf (w:World) (x:GDue) (cs:List Value) (h:GDue.TV w x cs):GDue.wf x:=by
 obtain ⟨e,q0,q1,q2⟩:=h
 exact ⟨wf_i64 q0,wf_i64 q1,wf_i64 q2⟩
def GDue.fit (x:GDue):Prop:=True
theorem GDue.rds:Rds GDue.TV GDue.cells 3:=fun w x cs h=>by
 obtain ⟨e,q0,q1,q2⟩:=h
 subst e
 exact ⟨RdC.cons (.int _ _) rfl (RdC.cons (.int _ _) rfl (RdC.cons (.int _ _) rfl (RdC.nil _))),rfl⟩
theorem opens_GDue:Opens Try.prog 34 GDue.TV:=fun H enc w base sp held fuel cs x h hL=>by
 obtain ⟨xs,n,hfuel,hxx,hlen,hxl,hf⟩:=DataW.trod_struct Try.underlying34 h
 subst hxx
 have hl:cs.length = 3:=hlen.trans (by kernel_rfl)
 match cs,hl with
 | [c0,c1,c2],_ =>
  obtain ⟨y0,hy0⟩ : ∃ y,xs[0]? = some y:=⟨xs[0]'(by rw [hxl]; simp),by simp⟩
  have f0:DataW.trod enc Try.prog w base sp held n 3 ((List.drop 0 [c0,c1,c2]).take (Try.prog.cellsOf 3)) = some y0:=(hf 0 _ rfl).trans hy0
  rw [show Try.prog.cellsOf 3 = 1 from by kernel_rfl] at f0
  have g0:=Light.part (P:=Try.prog) Try.underlying34 (i:=0) rfl hy0 hL
  obtain ⟨d0,t0⟩:=(opens_int Try.underlying3) H enc w base sp held n _ _ f0 g0
  obtain ⟨y1,hy1⟩ : ∃ y,xs[1]? = some y:=⟨xs[1]'(by rw [hxl]; simp),by simp⟩
  have f1:DataW.trod enc Try.prog w base sp held n 3 ((List.drop 1 [c0,c1,c2]).take (Try.prog.cellsOf 3)) = some y1:=(hf 1 _ rfl).trans hy1
  rw [show Try.prog.cellsOf 3 = 1 from by kernel_rfl] at f1
  have g1:=Light.part (P:=Try.prog) Try.underlying34 (i:=1) rfl hy1 hL
  obtain ⟨d1,t1⟩:=(opens_int Try.underlying3) H enc w base sp held n _ _ f1 g1
  obtain ⟨y2,hy2⟩ : ∃ y,xs[2]? = some y:=⟨xs[2]'(by rw [hxl]; simp),by simp⟩
  have f2:DataW.trod enc Try.prog w base sp held n 3 ((List.drop 2 [c0,c1,c2]).take (Try.prog.cellsOf 3)) = some y2:=(hf 2 _ rfl).trans hy2
  rw [show Try.prog.cellsOf 3 = 1 from by kernel_rfl] at f2
  have g2:=Light.part (P:=Try.prog) Try.underlying34 (i:=2) rfl hy2 hL
  obtain ⟨d2,t2⟩:=(opens_int Try.underlying3) H enc w base sp held n _ _ f2 g2
  obtain ⟨e0,q0⟩:=t0
  obtain ⟨e1,q1⟩:=t1
  obtain ⟨e2,q2⟩:=t2
  simp at e0 e1 e2
  exact ⟨⟨d0,d1,d2⟩,by simp [e0,e1,e2],q0,q1,q2⟩
end Go.Proofs.Ytgipgbhlibafhaa
