/- How what a law is handed reads. Printed by a program. -/
import Derived.Test.YtgjcnbgfaimepaaVmG
import Derived.Test.YtgjcnbgfaimepaaTab
import Derived.KernelRfl
set_option linter.unusedVariables false
set_option maxRecDepth 100000
namespace Go.Proofs.Ytgjcnbgfaimepaa
open Go.RowKit Go.ChangeShapes Go.WideShapes Go.Deep Vm
def aT.TV (w:World) (x:aT) (cs:List Value):Prop :=
 cs = [.int .i64 x.Kind,.int .i64 x.Owner] ∧ (Lit.int .i64 x.Kind).wf = true ∧ (Lit.int .i64 x.Owner).wf = true
def aT.wf (x:aT):Prop:=I64 x.Kind ∧ I64 x.Owner
theorem aT.TV_wf (w:World) (x:aT) (cs:List Value) (h:aT.TV w x cs):aT.wf x:=by
 obtain ⟨e,q0,q1⟩:=h
 exact ⟨FA q0,FA q1⟩
def aT.fit (x:aT):Prop:=True
theorem aT.TV_fit (w:World) (x:aT) (cs:List Value) (h:aT.TV w x cs):aT.fit x:=by
 obtain ⟨e,q0,q1⟩:=h
 exact trivial
theorem aT.rds:Rds aT.TV aT.cells 2:=fun w x cs h=>by
 obtain ⟨e,q0,q1⟩:=h
 subst e
 exact ⟨RdC.cons (.int _ _) rfl (RdC.cons (.int _ _) rfl (RdC.nil _)),rfl⟩
theorem aCi:aCT Try.prog 87 aT.TV:=fun H enc w base sp held fuel cs x h hL=>by
 obtain ⟨xs,n,hfuel,hxx,hlen,hxl,hf⟩:=DataW.trod_struct Try.underlying87 h
 subst hxx
 have hl:cs.length = 2:=hlen.trans (by kernel_rfl)
 match cs,hl with
 | [c0,c1],_ =>
  obtain ⟨y0,hy0⟩ : ∃ y,xs[0]? = some y:=⟨xs[0]'(by rw [hxl]; simp),by simp⟩
  have f0:DataW.trod enc Try.prog w base sp held n 3 ((List.drop 0 [c0,c1]).take (Try.prog.cellsOf 3)) = some y0:=(hf 0 _ rfl).trans hy0
  rw [show Try.prog.cellsOf 3 = 1 from by kernel_rfl] at f0
  have g0:=Light.part (P:=Try.prog) Try.underlying87 (i:=0) rfl hy0 hL
  obtain ⟨d0,t0⟩:=(xI Try.underlying3) H enc w base sp held n _ _ f0 g0
  obtain ⟨y1,hy1⟩ : ∃ y,xs[1]? = some y:=⟨xs[1]'(by rw [hxl]; simp),by simp⟩
  have f1:DataW.trod enc Try.prog w base sp held n 3 ((List.drop 1 [c0,c1]).take (Try.prog.cellsOf 3)) = some y1:=(hf 1 _ rfl).trans hy1
  rw [show Try.prog.cellsOf 3 = 1 from by kernel_rfl] at f1
  have g1:=Light.part (P:=Try.prog) Try.underlying87 (i:=1) rfl hy1 hL
  obtain ⟨d1,t1⟩:=(xI Try.underlying3) H enc w base sp held n _ _ f1 g1
  obtain ⟨e0,q0⟩:=t0
  obtain ⟨e1,q1⟩:=t1
  simp at e0 e1
  exact ⟨⟨d0,d1⟩,by simp [e0,e1],q0,q1⟩
def aF.TV (w:World) (x:aF) (cs:List Value):Prop :=
 ∃ v0:Value,cs = [.int .i64 x.From,.int .i64 x.To,.int .i64 x.Sum,.int .i64 x.File,.int .i64 x.Part,.int .i64 x.Sign,v0] ∧ (Lit.int .i64 x.From).wf = true ∧ (Lit.int .i64 x.To).wf = true ∧ (Lit.int .i64 x.Sum).wf = true ∧ (Lit.int .i64 x.File).wf = true ∧ (Lit.int .i64 x.Part).wf = true ∧ (Lit.int .i64 x.Sign).wf = true ∧ Sq w aT.TV 2 16 v0 x.Rights
def aF.wf (x:aF):Prop:=I64 x.From ∧ I64 x.To ∧ I64 x.Sum ∧ I64 x.File ∧ I64 x.Part ∧ I64 x.Sign ∧ Wl aT.wf x.Rights
theorem aF.TV_wf (w:World) (x:aF) (cs:List Value) (h:aF.TV w x cs):aF.wf x:=by
 obtain ⟨v0,e,q0,q1,q2,q3,q4,q5,q6⟩:=h
 exact ⟨FA q0,FA q1,FA q2,FA q3,FA q4,FA q5,q6.wl aT.TV_wf⟩
def aF.fit (x:aF):Prop:=Fl aT.fit 16 x.Rights
theorem aF.TV_fit (w:World) (x:aF) (cs:List Value) (h:aF.TV w x cs):aF.fit x:=by
 obtain ⟨v0,e,q0,q1,q2,q3,q4,q5,q6⟩:=h
 exact q6.fl aT.TV_fit
theorem aF.rds:Rds aF.TV aF.cells 7:=fun w x cs h=>by
 obtain ⟨v0,e,q0,q1,q2,q3,q4,q5,q6⟩:=h
 subst e
 exact ⟨RdC.cons (.int _ _) rfl (RdC.cons (.int _ _) rfl (RdC.cons (.int _ _) rfl (RdC.cons (.int _ _) rfl (RdC.cons (.int _ _) rfl (RdC.cons (.int _ _) rfl (RdC.cons (q6.reads aT.rds) rfl (RdC.nil _))))))),rfl⟩
theorem aCn:aCT Try.prog 48 aF.TV:=fun H enc w base sp held fuel cs x h hL=>by
 obtain ⟨xs,n,hfuel,hxx,hlen,hxl,hf⟩:=DataW.trod_struct Try.underlying48 h
 subst hxx
 have hl:cs.length = 7:=hlen.trans (by kernel_rfl)
 match cs,hl with
 | [c0,c1,c2,c3,c4,c5,c6],_ =>
  obtain ⟨y0,hy0⟩ : ∃ y,xs[0]? = some y:=⟨xs[0]'(by rw [hxl]; simp),by simp⟩
  have f0:DataW.trod enc Try.prog w base sp held n 3 ((List.drop 0 [c0,c1,c2,c3,c4,c5,c6]).take (Try.prog.cellsOf 3)) = some y0:=(hf 0 _ rfl).trans hy0
  rw [show Try.prog.cellsOf 3 = 1 from by kernel_rfl] at f0
  have g0:=Light.part (P:=Try.prog) Try.underlying48 (i:=0) rfl hy0 hL
  obtain ⟨d0,t0⟩:=(xI Try.underlying3) H enc w base sp held n _ _ f0 g0
  obtain ⟨y1,hy1⟩ : ∃ y,xs[1]? = some y:=⟨xs[1]'(by rw [hxl]; simp),by simp⟩
  have f1:DataW.trod enc Try.prog w base sp held n 3 ((List.drop 1 [c0,c1,c2,c3,c4,c5,c6]).take (Try.prog.cellsOf 3)) = some y1:=(hf 1 _ rfl).trans hy1
  rw [show Try.prog.cellsOf 3 = 1 from by kernel_rfl] at f1
  have g1:=Light.part (P:=Try.prog) Try.underlying48 (i:=1) rfl hy1 hL
  obtain ⟨d1,t1⟩:=(xI Try.underlying3) H enc w base sp held n _ _ f1 g1
  obtain ⟨y2,hy2⟩ : ∃ y,xs[2]? = some y:=⟨xs[2]'(by rw [hxl]; simp),by simp⟩
  have f2:DataW.trod enc Try.prog w base sp held n 3 ((List.drop 2 [c0,c1,c2,c3,c4,c5,c6]).take (Try.prog.cellsOf 3)) = some y2:=(hf 2 _ rfl).trans hy2
  rw [show Try.prog.cellsOf 3 = 1 from by kernel_rfl] at f2
  have g2:=Light.part (P:=Try.prog) Try.underlying48 (i:=2) rfl hy2 hL
  obtain ⟨d2,t2⟩:=(xI Try.underlying3) H enc w base sp held n _ _ f2 g2
  obtain ⟨y3,hy3⟩ : ∃ y,xs[3]? = some y:=⟨xs[3]'(by rw [hxl]; simp),by simp⟩
  have f3:DataW.trod enc Try.prog w base sp held n 3 ((List.drop 3 [c0,c1,c2,c3,c4,c5,c6]).take (Try.prog.cellsOf 3)) = some y3:=(hf 3 _ rfl).trans hy3
  rw [show Try.prog.cellsOf 3 = 1 from by kernel_rfl] at f3
  have g3:=Light.part (P:=Try.prog) Try.underlying48 (i:=3) rfl hy3 hL
  obtain ⟨d3,t3⟩:=(xI Try.underlying3) H enc w base sp held n _ _ f3 g3
  obtain ⟨y4,hy4⟩ : ∃ y,xs[4]? = some y:=⟨xs[4]'(by rw [hxl]; simp),by simp⟩
  have f4:DataW.trod enc Try.prog w base sp held n 3 ((List.drop 4 [c0,c1,c2,c3,c4,c5,c6]).take (Try.prog.cellsOf 3)) = some y4:=(hf 4 _ rfl).trans hy4
  rw [show Try.prog.cellsOf 3 = 1 from by kernel_rfl] at f4
  have g4:=Light.part (P:=Try.prog) Try.underlying48 (i:=4) rfl hy4 hL
  obtain ⟨d4,t4⟩:=(xI Try.underlying3) H enc w base sp held n _ _ f4 g4
  obtain ⟨y5,hy5⟩ : ∃ y,xs[5]? = some y:=⟨xs[5]'(by rw [hxl]; simp),by simp⟩
  have f5:DataW.trod enc Try.prog w base sp held n 3 ((List.drop 5 [c0,c1,c2,c3,c4,c5,c6]).take (Try.prog.cellsOf 3)) = some y5:=(hf 5 _ rfl).trans hy5
  rw [show Try.prog.cellsOf 3 = 1 from by kernel_rfl] at f5
  have g5:=Light.part (P:=Try.prog) Try.underlying48 (i:=5) rfl hy5 hL
  obtain ⟨d5,t5⟩:=(xI Try.underlying3) H enc w base sp held n _ _ f5 g5
  obtain ⟨y6,hy6⟩ : ∃ y,xs[6]? = some y:=⟨xs[6]'(by rw [hxl]; simp),by simp⟩
  have f6:DataW.trod enc Try.prog w base sp held n 46 ((List.drop 6 [c0,c1,c2,c3,c4,c5,c6]).take (Try.prog.cellsOf 46)) = some y6:=(hf 6 _ rfl).trans hy6
  rw [show Try.prog.cellsOf 46 = 1 from by kernel_rfl] at f6
  have g6:=Light.part (P:=Try.prog) Try.underlying48 (i:=6) rfl hy6 hL
  obtain ⟨d6,t6⟩:=(HW (k:=2) (bt:=16) Try.underlying46 (by kernel_rfl) (by kernel_rfl) (by omega) aCi) H enc w base sp held n _ _ f6 g6
  obtain ⟨e0,q0⟩:=t0
  obtain ⟨e1,q1⟩:=t1
  obtain ⟨e2,q2⟩:=t2
  obtain ⟨e3,q3⟩:=t3
  obtain ⟨e4,q4⟩:=t4
  obtain ⟨e5,q5⟩:=t5
  obtain ⟨u6,e6,q6⟩:=t6
  simp at e0 e1 e2 e3 e4 e5 e6
  exact ⟨⟨d0,d1,d2,d3,d4,d5,d6⟩,u6,by simp [e0,e1,e2,e3,e4,e5,e6],q0,q1,q2,q3,q4,q5,q6⟩
end Go.Proofs.Ytgjcnbgfaimepaa
