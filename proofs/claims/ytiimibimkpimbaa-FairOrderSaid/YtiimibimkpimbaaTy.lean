/- How what a law is handed reads. Printed by a program. -/
import Derived.Test.YtiimibimkpimbaaVmG
import Derived.Test.YtiimibimkpimbaaTab
import Derived.KernelRfl
set_option linter.unusedVariables false
set_option maxRecDepth 100000
namespace Go.Proofs.Ytiimibimkpimbaa
open Go.RowKit Go.ChangeShapes Go.WideShapes Go.Deep Vm
def aA.TV (w:World) (x:aA) (cs:List Value):Prop :=
 cs = [.int .i64 x.Kind,.int .i64 x.Room,.int .i64 x.Day,.int .i64 x.No,.int .i64 x.From,.int .i64 x.To,.int .i64 x.Currency,.int .i64 x.Due,.int .i64 x.Sum] ∧ (Lit.int .i64 x.Kind).wf = true ∧ (Lit.int .i64 x.Room).wf = true ∧ (Lit.int .i64 x.Day).wf = true ∧ (Lit.int .i64 x.No).wf = true ∧ (Lit.int .i64 x.From).wf = true ∧ (Lit.int .i64 x.To).wf = true ∧ (Lit.int .i64 x.Currency).wf = true ∧ (Lit.int .i64 x.Due).wf = true ∧ (Lit.int .i64 x.Sum).wf = true
def aA.wf (x:aA):Prop:=I64 x.Kind ∧ I64 x.Room ∧ I64 x.Day ∧ I64 x.No ∧ I64 x.From ∧ I64 x.To ∧ I64 x.Currency ∧ I64 x.Due ∧ I64 x.Sum
theorem aA.TV_wf (w:World) (x:aA) (cs:List Value) (h:aA.TV w x cs):aA.wf x:=by
 obtain ⟨e,q0,q1,q2,q3,q4,q5,q6,q7,q8⟩:=h
 exact ⟨vF q0,vF q1,vF q2,vF q3,vF q4,vF q5,vF q6,vF q7,vF q8⟩
theorem aA.rds:Rds aA.TV aA.cells 9:=fun w x cs h=>by
 obtain ⟨e,q0,q1,q2,q3,q4,q5,q6,q7,q8⟩:=h
 subst e
 exact ⟨OA.cons (.int _ _) rfl (OA.cons (.int _ _) rfl (OA.cons (.int _ _) rfl (OA.cons (.int _ _) rfl (OA.cons (.int _ _) rfl (OA.cons (.int _ _) rfl (OA.cons (.int _ _) rfl (OA.cons (.int _ _) rfl (OA.cons (.int _ _) rfl (OA.nil _))))))))),rfl⟩
theorem GQ:Q8 Try.prog 32 aA.TV:=fun H enc w base sp held fuel cs x h hL=>by
 obtain ⟨xs,n,hfuel,hxx,hlen,hxl,hf⟩:=DataW.trod_struct Try.underlying32 h
 subst hxx
 have hl:cs.length = 9:=hlen.trans (by kernel_rfl)
 match cs,hl with
 | [c0,c1,c2,c3,c4,c5,c6,c7,c8],_ =>
  obtain ⟨y0,hy0⟩ : ∃ y,xs[0]? = some y:=⟨xs[0]'(by rw [hxl]; simp),by simp⟩
  have f0:DataW.trod enc Try.prog w base sp held n 3 ((List.drop 0 [c0,c1,c2,c3,c4,c5,c6,c7,c8]).take (Try.prog.cellsOf 3)) = some y0:=(hf 0 _ rfl).trans hy0
  rw [show Try.prog.cellsOf 3 = 1 from by kernel_rfl] at f0
  have g0:=Light.part (P:=Try.prog) Try.underlying32 (i:=0) rfl hy0 hL
  obtain ⟨d0,t0⟩:=(qG Try.underlying3) H enc w base sp held n _ _ f0 g0
  obtain ⟨y1,hy1⟩ : ∃ y,xs[1]? = some y:=⟨xs[1]'(by rw [hxl]; simp),by simp⟩
  have f1:DataW.trod enc Try.prog w base sp held n 3 ((List.drop 1 [c0,c1,c2,c3,c4,c5,c6,c7,c8]).take (Try.prog.cellsOf 3)) = some y1:=(hf 1 _ rfl).trans hy1
  rw [show Try.prog.cellsOf 3 = 1 from by kernel_rfl] at f1
  have g1:=Light.part (P:=Try.prog) Try.underlying32 (i:=1) rfl hy1 hL
  obtain ⟨d1,t1⟩:=(qG Try.underlying3) H enc w base sp held n _ _ f1 g1
  obtain ⟨y2,hy2⟩ : ∃ y,xs[2]? = some y:=⟨xs[2]'(by rw [hxl]; simp),by simp⟩
  have f2:DataW.trod enc Try.prog w base sp held n 3 ((List.drop 2 [c0,c1,c2,c3,c4,c5,c6,c7,c8]).take (Try.prog.cellsOf 3)) = some y2:=(hf 2 _ rfl).trans hy2
  rw [show Try.prog.cellsOf 3 = 1 from by kernel_rfl] at f2
  have g2:=Light.part (P:=Try.prog) Try.underlying32 (i:=2) rfl hy2 hL
  obtain ⟨d2,t2⟩:=(qG Try.underlying3) H enc w base sp held n _ _ f2 g2
  obtain ⟨y3,hy3⟩ : ∃ y,xs[3]? = some y:=⟨xs[3]'(by rw [hxl]; simp),by simp⟩
  have f3:DataW.trod enc Try.prog w base sp held n 3 ((List.drop 3 [c0,c1,c2,c3,c4,c5,c6,c7,c8]).take (Try.prog.cellsOf 3)) = some y3:=(hf 3 _ rfl).trans hy3
  rw [show Try.prog.cellsOf 3 = 1 from by kernel_rfl] at f3
  have g3:=Light.part (P:=Try.prog) Try.underlying32 (i:=3) rfl hy3 hL
  obtain ⟨d3,t3⟩:=(qG Try.underlying3) H enc w base sp held n _ _ f3 g3
  obtain ⟨y4,hy4⟩ : ∃ y,xs[4]? = some y:=⟨xs[4]'(by rw [hxl]; simp),by simp⟩
  have f4:DataW.trod enc Try.prog w base sp held n 3 ((List.drop 4 [c0,c1,c2,c3,c4,c5,c6,c7,c8]).take (Try.prog.cellsOf 3)) = some y4:=(hf 4 _ rfl).trans hy4
  rw [show Try.prog.cellsOf 3 = 1 from by kernel_rfl] at f4
  have g4:=Light.part (P:=Try.prog) Try.underlying32 (i:=4) rfl hy4 hL
  obtain ⟨d4,t4⟩:=(qG Try.underlying3) H enc w base sp held n _ _ f4 g4
  obtain ⟨y5,hy5⟩ : ∃ y,xs[5]? = some y:=⟨xs[5]'(by rw [hxl]; simp),by simp⟩
  have f5:DataW.trod enc Try.prog w base sp held n 3 ((List.drop 5 [c0,c1,c2,c3,c4,c5,c6,c7,c8]).take (Try.prog.cellsOf 3)) = some y5:=(hf 5 _ rfl).trans hy5
  rw [show Try.prog.cellsOf 3 = 1 from by kernel_rfl] at f5
  have g5:=Light.part (P:=Try.prog) Try.underlying32 (i:=5) rfl hy5 hL
  obtain ⟨d5,t5⟩:=(qG Try.underlying3) H enc w base sp held n _ _ f5 g5
  obtain ⟨y6,hy6⟩ : ∃ y,xs[6]? = some y:=⟨xs[6]'(by rw [hxl]; simp),by simp⟩
  have f6:DataW.trod enc Try.prog w base sp held n 3 ((List.drop 6 [c0,c1,c2,c3,c4,c5,c6,c7,c8]).take (Try.prog.cellsOf 3)) = some y6:=(hf 6 _ rfl).trans hy6
  rw [show Try.prog.cellsOf 3 = 1 from by kernel_rfl] at f6
  have g6:=Light.part (P:=Try.prog) Try.underlying32 (i:=6) rfl hy6 hL
  obtain ⟨d6,t6⟩:=(qG Try.underlying3) H enc w base sp held n _ _ f6 g6
  obtain ⟨y7,hy7⟩ : ∃ y,xs[7]? = some y:=⟨xs[7]'(by rw [hxl]; simp),by simp⟩
  have f7:DataW.trod enc Try.prog w base sp held n 3 ((List.drop 7 [c0,c1,c2,c3,c4,c5,c6,c7,c8]).take (Try.prog.cellsOf 3)) = some y7:=(hf 7 _ rfl).trans hy7
  rw [show Try.prog.cellsOf 3 = 1 from by kernel_rfl] at f7
  have g7:=Light.part (P:=Try.prog) Try.underlying32 (i:=7) rfl hy7 hL
  obtain ⟨d7,t7⟩:=(qG Try.underlying3) H enc w base sp held n _ _ f7 g7
  obtain ⟨y8,hy8⟩ : ∃ y,xs[8]? = some y:=⟨xs[8]'(by rw [hxl]; simp),by simp⟩
  have f8:DataW.trod enc Try.prog w base sp held n 3 ((List.drop 8 [c0,c1,c2,c3,c4,c5,c6,c7,c8]).take (Try.prog.cellsOf 3)) = some y8:=(hf 8 _ rfl).trans hy8
  rw [show Try.prog.cellsOf 3 = 1 from by kernel_rfl] at f8
  have g8:=Light.part (P:=Try.prog) Try.underlying32 (i:=8) rfl hy8 hL
  obtain ⟨d8,t8⟩:=(qG Try.underlying3) H enc w base sp held n _ _ f8 g8
  obtain ⟨e0,q0⟩:=t0
  obtain ⟨e1,q1⟩:=t1
  obtain ⟨e2,q2⟩:=t2
  obtain ⟨e3,q3⟩:=t3
  obtain ⟨e4,q4⟩:=t4
  obtain ⟨e5,q5⟩:=t5
  obtain ⟨e6,q6⟩:=t6
  obtain ⟨e7,q7⟩:=t7
  obtain ⟨e8,q8⟩:=t8
  simp at e0 e1 e2 e3 e4 e5 e6 e7 e8
  exact ⟨⟨d0,d1,d2,d3,d4,d5,d6,d7,d8⟩,by simp [e0,e1,e2,e3,e4,e5,e6,e7,e8],q0,q1,q2,q3,q4,q5,q6,q7,q8⟩
end Go.Proofs.Ytiimibimkpimbaa
