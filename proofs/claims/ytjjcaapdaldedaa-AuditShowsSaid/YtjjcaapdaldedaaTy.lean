/- How what a law is handed reads. Printed by a program. -/
import Derived.Test.YtjjcaapdaldedaaVmG
import Derived.Test.YtjjcaapdaldedaaTab
import Derived.KernelRfl
set_option linter.unusedVariables false
set_option maxRecDepth 100000
namespace Go.Proofs.Ytjjcaapdaldedaa
open Go.RowKit Go.ChangeShapes Go.WideShapes Go.Deep Vm
def dT.TV (w:World) (x:dT) (cs:List Value):Prop :=
 ∃ v0 v1 v2:Value,cs = [.string x.Name,.int .i64 x.Order,.int .i64 x.Currency,v0,v1,v2] ∧ x.Name.size <= maxLen ∧ (Lit.int .i64 x.Order).wf = true ∧ (Lit.int .i64 x.Currency).wf = true ∧ Sq w P6 1 8 v0 x.Rest ∧ Sq w P6 1 8 v1 x.Feasts ∧ Sq w P6 1 8 v2 x.Shut
def dT.wf (x:dT):Prop:=Ws x.Name ∧ IZ x.Order ∧ IZ x.Currency ∧ Wl IZ x.Rest ∧ Wl IZ x.Feasts ∧ Wl IZ x.Shut
theorem dT.TV_wf (w:World) (x:dT) (cs:List Value) (h:dT.TV w x cs):dT.wf x:=by
 obtain ⟨v0,v1,v2,e,q0,q1,q2,q3,q4,q5⟩:=h
 exact ⟨U4 q0,kA q1,kA q2,q3.wl (fun w x cs h=>kA h.2),q4.wl (fun w x cs h=>kA h.2),q5.wl (fun w x cs h=>kA h.2)⟩
theorem dT.rds:RP dT.TV dT.cells 6:=fun w x cs h=>by
 obtain ⟨v0,v1,v2,e,q0,q1,q2,q3,q4,q5⟩:=h
 subst e
 exact ⟨qZ.cons (.str _ q0) rfl (qZ.cons (.int _ _) rfl (qZ.cons (.int _ _) rfl (qZ.cons (q3.reads NV) rfl (qZ.cons (q4.reads NV) rfl (qZ.cons (q5.reads NV) rfl (qZ.nil _)))))),rfl⟩
theorem P3:wB Try.prog 71 dT.TV:=fun H enc w base sp held fuel cs x h hL=>by
 obtain ⟨xs,n,hfuel,hxx,hlen,hxl,hf⟩:=DataW.trod_struct Try.underlying71 h
 subst hxx
 have hl:cs.length = 6:=hlen.trans (by kernel_rfl)
 match cs,hl with
 | [c0,c1,c2,c3,c4,c5],_ =>
  obtain ⟨y0,hy0⟩ : ∃ y,xs[0]? = some y:=⟨xs[0]'(by rw [hxl]; simp),by simp⟩
  have f0:DataW.trod enc Try.prog w base sp held n 9 ((List.drop 0 [c0,c1,c2,c3,c4,c5]).take (Try.prog.cellsOf 9)) = some y0:=(hf 0 _ rfl).trans hy0
  rw [show Try.prog.cellsOf 9 = 1 from by kernel_rfl] at f0
  have g0:=Light.part (P:=Try.prog) Try.underlying71 (i:=0) rfl hy0 hL
  obtain ⟨d0,t0⟩:=(CZ Try.underlying9) H enc w base sp held n _ _ f0 g0
  obtain ⟨y1,hy1⟩ : ∃ y,xs[1]? = some y:=⟨xs[1]'(by rw [hxl]; simp),by simp⟩
  have f1:DataW.trod enc Try.prog w base sp held n 3 ((List.drop 1 [c0,c1,c2,c3,c4,c5]).take (Try.prog.cellsOf 3)) = some y1:=(hf 1 _ rfl).trans hy1
  rw [show Try.prog.cellsOf 3 = 1 from by kernel_rfl] at f1
  have g1:=Light.part (P:=Try.prog) Try.underlying71 (i:=1) rfl hy1 hL
  obtain ⟨d1,t1⟩:=(fN Try.underlying3) H enc w base sp held n _ _ f1 g1
  obtain ⟨y2,hy2⟩ : ∃ y,xs[2]? = some y:=⟨xs[2]'(by rw [hxl]; simp),by simp⟩
  have f2:DataW.trod enc Try.prog w base sp held n 3 ((List.drop 2 [c0,c1,c2,c3,c4,c5]).take (Try.prog.cellsOf 3)) = some y2:=(hf 2 _ rfl).trans hy2
  rw [show Try.prog.cellsOf 3 = 1 from by kernel_rfl] at f2
  have g2:=Light.part (P:=Try.prog) Try.underlying71 (i:=2) rfl hy2 hL
  obtain ⟨d2,t2⟩:=(fN Try.underlying3) H enc w base sp held n _ _ f2 g2
  obtain ⟨y3,hy3⟩ : ∃ y,xs[3]? = some y:=⟨xs[3]'(by rw [hxl]; simp),by simp⟩
  have f3:DataW.trod enc Try.prog w base sp held n 32 ((List.drop 3 [c0,c1,c2,c3,c4,c5]).take (Try.prog.cellsOf 32)) = some y3:=(hf 3 _ rfl).trans hy3
  rw [show Try.prog.cellsOf 32 = 1 from by kernel_rfl] at f3
  have g3:=Light.part (P:=Try.prog) Try.underlying71 (i:=3) rfl hy3 hL
  obtain ⟨d3,t3⟩:=(iN (k:=1) (bt:=8) Try.underlying32 (by kernel_rfl) (by kernel_rfl) (by omega) (fN Try.underlying3)) H enc w base sp held n _ _ f3 g3
  obtain ⟨y4,hy4⟩ : ∃ y,xs[4]? = some y:=⟨xs[4]'(by rw [hxl]; simp),by simp⟩
  have f4:DataW.trod enc Try.prog w base sp held n 32 ((List.drop 4 [c0,c1,c2,c3,c4,c5]).take (Try.prog.cellsOf 32)) = some y4:=(hf 4 _ rfl).trans hy4
  rw [show Try.prog.cellsOf 32 = 1 from by kernel_rfl] at f4
  have g4:=Light.part (P:=Try.prog) Try.underlying71 (i:=4) rfl hy4 hL
  obtain ⟨d4,t4⟩:=(iN (k:=1) (bt:=8) Try.underlying32 (by kernel_rfl) (by kernel_rfl) (by omega) (fN Try.underlying3)) H enc w base sp held n _ _ f4 g4
  obtain ⟨y5,hy5⟩ : ∃ y,xs[5]? = some y:=⟨xs[5]'(by rw [hxl]; simp),by simp⟩
  have f5:DataW.trod enc Try.prog w base sp held n 32 ((List.drop 5 [c0,c1,c2,c3,c4,c5]).take (Try.prog.cellsOf 32)) = some y5:=(hf 5 _ rfl).trans hy5
  rw [show Try.prog.cellsOf 32 = 1 from by kernel_rfl] at f5
  have g5:=Light.part (P:=Try.prog) Try.underlying71 (i:=5) rfl hy5 hL
  obtain ⟨d5,t5⟩:=(iN (k:=1) (bt:=8) Try.underlying32 (by kernel_rfl) (by kernel_rfl) (by omega) (fN Try.underlying3)) H enc w base sp held n _ _ f5 g5
  obtain ⟨e0,q0⟩:=t0
  obtain ⟨e1,q1⟩:=t1
  obtain ⟨e2,q2⟩:=t2
  obtain ⟨u3,e3,q3⟩:=t3
  obtain ⟨u4,e4,q4⟩:=t4
  obtain ⟨u5,e5,q5⟩:=t5
  simp at e0 e1 e2 e3 e4 e5
  exact ⟨⟨d0,d1,d2,d3,d4,d5⟩,u3,u4,u5,by simp [e0,e1,e2,e3,e4,e5],q0,q1,q2,q3,q4,q5⟩
def eH.TV (w:World) (x:eH) (cs:List Value):Prop :=
 cs = [.int .i64 x.Grade] ∧ (Lit.int .i64 x.Grade).wf = true
def eH.wf (x:eH):Prop:=IZ x.Grade
theorem eH.TV_wf (w:World) (x:eH) (cs:List Value) (h:eH.TV w x cs):eH.wf x:=by
 obtain ⟨e,q0⟩:=h
 exact kA q0
theorem eH.rds:RP eH.TV eH.cells 1:=fun w x cs h=>by
 obtain ⟨e,q0⟩:=h
 subst e
 exact ⟨qZ.cons (.int _ _) rfl (qZ.nil _),rfl⟩
theorem N3:wB Try.prog 78 eH.TV:=fun H enc w base sp held fuel cs x h hL=>by
 obtain ⟨xs,n,hfuel,hxx,hlen,hxl,hf⟩:=DataW.trod_struct Try.underlying78 h
 subst hxx
 have hl:cs.length = 1:=hlen.trans (by kernel_rfl)
 match cs,hl with
 | [c0],_ =>
  obtain ⟨y0,hy0⟩ : ∃ y,xs[0]? = some y:=⟨xs[0]'(by rw [hxl]; simp),by simp⟩
  have f0:DataW.trod enc Try.prog w base sp held n 3 ((List.drop 0 [c0]).take (Try.prog.cellsOf 3)) = some y0:=(hf 0 _ rfl).trans hy0
  rw [show Try.prog.cellsOf 3 = 1 from by kernel_rfl] at f0
  have g0:=Light.part (P:=Try.prog) Try.underlying78 (i:=0) rfl hy0 hL
  obtain ⟨d0,t0⟩:=(fN Try.underlying3) H enc w base sp held n _ _ f0 g0
  obtain ⟨e0,q0⟩:=t0
  simp at e0
  exact ⟨⟨d0⟩,by simp [e0],q0⟩
def eV.TV (w:World) (x:eV) (cs:List Value):Prop :=
 cs = [.string x.Name,.int .i64 x.City,.int .i64 x.Group] ∧ x.Name.size <= maxLen ∧ (Lit.int .i64 x.City).wf = true ∧ (Lit.int .i64 x.Group).wf = true
def eV.wf (x:eV):Prop:=Ws x.Name ∧ IZ x.City ∧ IZ x.Group
theorem eV.TV_wf (w:World) (x:eV) (cs:List Value) (h:eV.TV w x cs):eV.wf x:=by
 obtain ⟨e,q0,q1,q2⟩:=h
 exact ⟨U4 q0,kA q1,kA q2⟩
theorem eV.rds:RP eV.TV eV.cells 3:=fun w x cs h=>by
 obtain ⟨e,q0,q1,q2⟩:=h
 subst e
 exact ⟨qZ.cons (.str _ q0) rfl (qZ.cons (.int _ _) rfl (qZ.cons (.int _ _) rfl (qZ.nil _))),rfl⟩
theorem OT:wB Try.prog 81 eV.TV:=fun H enc w base sp held fuel cs x h hL=>by
 obtain ⟨xs,n,hfuel,hxx,hlen,hxl,hf⟩:=DataW.trod_struct Try.underlying81 h
 subst hxx
 have hl:cs.length = 3:=hlen.trans (by kernel_rfl)
 match cs,hl with
 | [c0,c1,c2],_ =>
  obtain ⟨y0,hy0⟩ : ∃ y,xs[0]? = some y:=⟨xs[0]'(by rw [hxl]; simp),by simp⟩
  have f0:DataW.trod enc Try.prog w base sp held n 9 ((List.drop 0 [c0,c1,c2]).take (Try.prog.cellsOf 9)) = some y0:=(hf 0 _ rfl).trans hy0
  rw [show Try.prog.cellsOf 9 = 1 from by kernel_rfl] at f0
  have g0:=Light.part (P:=Try.prog) Try.underlying81 (i:=0) rfl hy0 hL
  obtain ⟨d0,t0⟩:=(CZ Try.underlying9) H enc w base sp held n _ _ f0 g0
  obtain ⟨y1,hy1⟩ : ∃ y,xs[1]? = some y:=⟨xs[1]'(by rw [hxl]; simp),by simp⟩
  have f1:DataW.trod enc Try.prog w base sp held n 3 ((List.drop 1 [c0,c1,c2]).take (Try.prog.cellsOf 3)) = some y1:=(hf 1 _ rfl).trans hy1
  rw [show Try.prog.cellsOf 3 = 1 from by kernel_rfl] at f1
  have g1:=Light.part (P:=Try.prog) Try.underlying81 (i:=1) rfl hy1 hL
  obtain ⟨d1,t1⟩:=(fN Try.underlying3) H enc w base sp held n _ _ f1 g1
  obtain ⟨y2,hy2⟩ : ∃ y,xs[2]? = some y:=⟨xs[2]'(by rw [hxl]; simp),by simp⟩
  have f2:DataW.trod enc Try.prog w base sp held n 3 ((List.drop 2 [c0,c1,c2]).take (Try.prog.cellsOf 3)) = some y2:=(hf 2 _ rfl).trans hy2
  rw [show Try.prog.cellsOf 3 = 1 from by kernel_rfl] at f2
  have g2:=Light.part (P:=Try.prog) Try.underlying81 (i:=2) rfl hy2 hL
  obtain ⟨d2,t2⟩:=(fN Try.underlying3) H enc w base sp held n _ _ f2 g2
  obtain ⟨e0,q0⟩:=t0
  obtain ⟨e1,q1⟩:=t1
  obtain ⟨e2,q2⟩:=t2
  simp at e0 e1 e2
  exact ⟨⟨d0,d1,d2⟩,by simp [e0,e1,e2],q0,q1,q2⟩
def cW.TV (w:World) (x:cW) (cs:List Value):Prop :=
 cs = [.int .i64 x.Ask,.int .i64 x.By,.bool x.Whole] ∧ (Lit.int .i64 x.Ask).wf = true ∧ (Lit.int .i64 x.By).wf = true
def cW.wf (x:cW):Prop:=IZ x.Ask ∧ IZ x.By
theorem cW.TV_wf (w:World) (x:cW) (cs:List Value) (h:cW.TV w x cs):cW.wf x:=by
 obtain ⟨e,q0,q1⟩:=h
 exact ⟨kA q0,kA q1⟩
theorem cW.rds:RP cW.TV cW.cells 3:=fun w x cs h=>by
 obtain ⟨e,q0,q1⟩:=h
 subst e
 exact ⟨qZ.cons (.int _ _) rfl (qZ.cons (.int _ _) rfl (qZ.cons (.bool _) rfl (qZ.nil _))),rfl⟩
theorem LQ:wB Try.prog 50 cW.TV:=fun H enc w base sp held fuel cs x h hL=>by
 obtain ⟨xs,n,hfuel,hxx,hlen,hxl,hf⟩:=DataW.trod_struct Try.underlying50 h
 subst hxx
 have hl:cs.length = 3:=hlen.trans (by kernel_rfl)
 match cs,hl with
 | [c0,c1,c2],_ =>
  obtain ⟨y0,hy0⟩ : ∃ y,xs[0]? = some y:=⟨xs[0]'(by rw [hxl]; simp),by simp⟩
  have f0:DataW.trod enc Try.prog w base sp held n 3 ((List.drop 0 [c0,c1,c2]).take (Try.prog.cellsOf 3)) = some y0:=(hf 0 _ rfl).trans hy0
  rw [show Try.prog.cellsOf 3 = 1 from by kernel_rfl] at f0
  have g0:=Light.part (P:=Try.prog) Try.underlying50 (i:=0) rfl hy0 hL
  obtain ⟨d0,t0⟩:=(fN Try.underlying3) H enc w base sp held n _ _ f0 g0
  obtain ⟨y1,hy1⟩ : ∃ y,xs[1]? = some y:=⟨xs[1]'(by rw [hxl]; simp),by simp⟩
  have f1:DataW.trod enc Try.prog w base sp held n 3 ((List.drop 1 [c0,c1,c2]).take (Try.prog.cellsOf 3)) = some y1:=(hf 1 _ rfl).trans hy1
  rw [show Try.prog.cellsOf 3 = 1 from by kernel_rfl] at f1
  have g1:=Light.part (P:=Try.prog) Try.underlying50 (i:=1) rfl hy1 hL
  obtain ⟨d1,t1⟩:=(fN Try.underlying3) H enc w base sp held n _ _ f1 g1
  obtain ⟨y2,hy2⟩ : ∃ y,xs[2]? = some y:=⟨xs[2]'(by rw [hxl]; simp),by simp⟩
  have f2:DataW.trod enc Try.prog w base sp held n 4 ((List.drop 2 [c0,c1,c2]).take (Try.prog.cellsOf 4)) = some y2:=(hf 2 _ rfl).trans hy2
  rw [show Try.prog.cellsOf 4 = 1 from by kernel_rfl] at f2
  have g2:=Light.part (P:=Try.prog) Try.underlying50 (i:=2) rfl hy2 hL
  obtain ⟨d2,t2⟩:=(K2 Try.underlying4) H enc w base sp held n _ _ f2 g2
  obtain ⟨e0,q0⟩:=t0
  obtain ⟨e1,q1⟩:=t1
  have e2:(_:List Value) = _:=t2
  simp at e0 e1 e2
  exact ⟨⟨d0,d1,d2⟩,by simp [e0,e1,e2],q0,q1⟩
def k6.TV (w:World) (x:k6) (cs:List Value):Prop :=
 ∃ v0:Value,cs = [.int .i64 x.Op,.int .i64 x.N,v0] ∧ (Lit.int .i64 x.Op).wf = true ∧ (Lit.int .i64 x.N).wf = true ∧ Sq w (UP 3) 3 40 v0 x.Args
def k6.wf (x:k6):Prop:=IZ x.Op ∧ IZ x.N ∧ Wl (fun _=>True) x.Args
theorem k6.TV_wf (w:World) (x:k6) (cs:List Value) (h:k6.TV w x cs):k6.wf x:=by
 obtain ⟨v0,e,q0,q1,q2⟩:=h
 exact ⟨kA q0,kA q1,q2.wl (fun _ _ _ _=>trivial)⟩
theorem k6.rds:RP k6.TV k6.cells 3:=fun w x cs h=>by
 obtain ⟨v0,e,q0,q1,q2⟩:=h
 subst e
 exact ⟨qZ.cons (.int _ _) rfl (qZ.cons (.int _ _) rfl (qZ.cons (q2.reads (U1 3)) rfl (qZ.nil _))),rfl⟩
theorem QZ:wB Try.prog 67 k6.TV:=fun H enc w base sp held fuel=>by
 induction fuel using Nat.strongRecOn with
 | _ fuel ih =>
 intro cs x h hL
 obtain ⟨xs,n,hfuel,hxx,hlen,hxl,hf⟩:=DataW.trod_struct Try.underlying67 h
 subst hxx
 have hl:cs.length = 3:=hlen.trans (by kernel_rfl)
 match cs,hl with
 | [c0,c1,c2],_ =>
  obtain ⟨y0,hy0⟩ : ∃ y,xs[0]? = some y:=⟨xs[0]'(by rw [hxl]; simp),by simp⟩
  have f0:DataW.trod enc Try.prog w base sp held n 3 ((List.drop 0 [c0,c1,c2]).take (Try.prog.cellsOf 3)) = some y0:=(hf 0 _ rfl).trans hy0
  rw [show Try.prog.cellsOf 3 = 1 from by kernel_rfl] at f0
  have g0:=Light.part (P:=Try.prog) Try.underlying67 (i:=0) rfl hy0 hL
  obtain ⟨d0,t0⟩:=(fN Try.underlying3) H enc w base sp held n _ _ f0 g0
  obtain ⟨y1,hy1⟩ : ∃ y,xs[1]? = some y:=⟨xs[1]'(by rw [hxl]; simp),by simp⟩
  have f1:DataW.trod enc Try.prog w base sp held n 3 ((List.drop 1 [c0,c1,c2]).take (Try.prog.cellsOf 3)) = some y1:=(hf 1 _ rfl).trans hy1
  rw [show Try.prog.cellsOf 3 = 1 from by kernel_rfl] at f1
  have g1:=Light.part (P:=Try.prog) Try.underlying67 (i:=1) rfl hy1 hL
  obtain ⟨d1,t1⟩:=(fN Try.underlying3) H enc w base sp held n _ _ f1 g1
  obtain ⟨y2,hy2⟩ : ∃ y,xs[2]? = some y:=⟨xs[2]'(by rw [hxl]; simp),by simp⟩
  have f2:DataW.trod enc Try.prog w base sp held n 65 ((List.drop 2 [c0,c1,c2]).take (Try.prog.cellsOf 65)) = some y2:=(hf 2 _ rfl).trans hy2
  rw [show Try.prog.cellsOf 65 = 1 from by kernel_rfl] at f2
  have g2:=Light.part (P:=Try.prog) Try.underlying67 (i:=2) rfl hy2 hL
  obtain ⟨d2,t2⟩:=CU (k:=3) (bt:=40) (TV:=UP 3) Try.underlying65 (by kernel_rfl) (by kernel_rfl) (by omega) (fun m hm cs x h hL=>by obtain ⟨g,hg⟩:=ih m (by omega) cs x h hL; exact ⟨k6.cells g,k6.rds _ _ _ hg⟩) f2 g2
  obtain ⟨e0,q0⟩:=t0
  obtain ⟨e1,q1⟩:=t1
  obtain ⟨u2,e2,q2⟩:=t2
  simp at e0 e1 e2
  exact ⟨⟨d0,d1,d2⟩,u2,by simp [e0,e1,e2],q0,q1,q2⟩
def dL.TV (w:World) (x:dL) (cs:List Value):Prop :=
 ∃ v0:Value,cs = [.int .i64 x.Ask,.int .i64 x.Term.Op,.int .i64 x.Term.N,v0] ∧ (Lit.int .i64 x.Ask).wf = true ∧ (Lit.int .i64 x.Term.Op).wf = true ∧ (Lit.int .i64 x.Term.N).wf = true ∧ Sq w (UP 3) 3 40 v0 x.Term.Args
def dL.wf (x:dL):Prop:=IZ x.Ask ∧ k6.wf x.Term
theorem dL.TV_wf (w:World) (x:dL) (cs:List Value) (h:dL.TV w x cs):dL.wf x:=by
 obtain ⟨v0,e,q0,q1,q2,q3⟩:=h
 exact ⟨kA q0,⟨kA q1,kA q2,q3.wl (fun _ _ _ _=>trivial)⟩⟩
theorem dL.rds:RP dL.TV dL.cells 4:=fun w x cs h=>by
 obtain ⟨v0,e,q0,q1,q2,q3⟩:=h
 subst e
 exact ⟨qZ.cons (.int _ _) rfl (qZ.cons (.int _ _) rfl (qZ.cons (.int _ _) rfl (qZ.cons (q3.reads (U1 3)) rfl (qZ.nil _)))),rfl⟩
theorem QM:wB Try.prog 69 dL.TV:=fun H enc w base sp held fuel cs x h hL=>by
 obtain ⟨xs,n,hfuel,hxx,hlen,hxl,hf⟩:=DataW.trod_struct Try.underlying69 h
 subst hxx
 have hl:cs.length = 4:=hlen.trans (by kernel_rfl)
 match cs,hl with
 | [c0,c1,c2,c3],_ =>
  obtain ⟨y0,hy0⟩ : ∃ y,xs[0]? = some y:=⟨xs[0]'(by rw [hxl]; simp),by simp⟩
  have f0:DataW.trod enc Try.prog w base sp held n 3 ((List.drop 0 [c0,c1,c2,c3]).take (Try.prog.cellsOf 3)) = some y0:=(hf 0 _ rfl).trans hy0
  rw [show Try.prog.cellsOf 3 = 1 from by kernel_rfl] at f0
  have g0:=Light.part (P:=Try.prog) Try.underlying69 (i:=0) rfl hy0 hL
  obtain ⟨d0,t0⟩:=(fN Try.underlying3) H enc w base sp held n _ _ f0 g0
  obtain ⟨y1,hy1⟩ : ∃ y,xs[1]? = some y:=⟨xs[1]'(by rw [hxl]; simp),by simp⟩
  have f1:DataW.trod enc Try.prog w base sp held n 67 ((List.drop 1 [c0,c1,c2,c3]).take (Try.prog.cellsOf 67)) = some y1:=(hf 1 _ rfl).trans hy1
  rw [show Try.prog.cellsOf 67 = 3 from by kernel_rfl] at f1
  have g1:=Light.part (P:=Try.prog) Try.underlying69 (i:=1) rfl hy1 hL
  obtain ⟨d1,t1⟩:=QZ H enc w base sp held n _ _ f1 g1
  obtain ⟨e0,q0⟩:=t0
  obtain ⟨u1_0,e1,q1_0,q1_1,q1_2⟩:=t1
  simp at e0 e1
  exact ⟨⟨d0,d1⟩,u1_0,by simp [e0,e1],q0,q1_0,q1_1,q1_2⟩
def b4.TV (w:World) (x:b4) (cs:List Value):Prop :=
 ∃ v0 v1:Value,cs = [.string x.Name,.bool x.Accepts,v0,v1] ∧ x.Name.size <= maxLen ∧ Sq w cW.TV 3 24 v0 x.Choices ∧ Sq w dL.TV 4 48 v1 x.Rules
def b4.wf (x:b4):Prop:=Ws x.Name ∧ Wl cW.wf x.Choices ∧ Wl dL.wf x.Rules
theorem b4.TV_wf (w:World) (x:b4) (cs:List Value) (h:b4.TV w x cs):b4.wf x:=by
 obtain ⟨v0,v1,e,q0,q1,q2⟩:=h
 exact ⟨U4 q0,q1.wl cW.TV_wf,q2.wl dL.TV_wf⟩
theorem b4.rds:RP b4.TV b4.cells 4:=fun w x cs h=>by
 obtain ⟨v0,v1,e,q0,q1,q2⟩:=h
 subst e
 exact ⟨qZ.cons (.str _ q0) rfl (qZ.cons (.bool _) rfl (qZ.cons (q1.reads cW.rds) rfl (qZ.cons (q2.reads dL.rds) rfl (qZ.nil _)))),rfl⟩
theorem NE:wB Try.prog 47 b4.TV:=fun H enc w base sp held fuel cs x h hL=>by
 obtain ⟨xs,n,hfuel,hxx,hlen,hxl,hf⟩:=DataW.trod_struct Try.underlying47 h
 subst hxx
 have hl:cs.length = 4:=hlen.trans (by kernel_rfl)
 match cs,hl with
 | [c0,c1,c2,c3],_ =>
  obtain ⟨y0,hy0⟩ : ∃ y,xs[0]? = some y:=⟨xs[0]'(by rw [hxl]; simp),by simp⟩
  have f0:DataW.trod enc Try.prog w base sp held n 9 ((List.drop 0 [c0,c1,c2,c3]).take (Try.prog.cellsOf 9)) = some y0:=(hf 0 _ rfl).trans hy0
  rw [show Try.prog.cellsOf 9 = 1 from by kernel_rfl] at f0
  have g0:=Light.part (P:=Try.prog) Try.underlying47 (i:=0) rfl hy0 hL
  obtain ⟨d0,t0⟩:=(CZ Try.underlying9) H enc w base sp held n _ _ f0 g0
  obtain ⟨y1,hy1⟩ : ∃ y,xs[1]? = some y:=⟨xs[1]'(by rw [hxl]; simp),by simp⟩
  have f1:DataW.trod enc Try.prog w base sp held n 4 ((List.drop 1 [c0,c1,c2,c3]).take (Try.prog.cellsOf 4)) = some y1:=(hf 1 _ rfl).trans hy1
  rw [show Try.prog.cellsOf 4 = 1 from by kernel_rfl] at f1
  have g1:=Light.part (P:=Try.prog) Try.underlying47 (i:=1) rfl hy1 hL
  obtain ⟨d1,t1⟩:=(K2 Try.underlying4) H enc w base sp held n _ _ f1 g1
  obtain ⟨y2,hy2⟩ : ∃ y,xs[2]? = some y:=⟨xs[2]'(by rw [hxl]; simp),by simp⟩
  have f2:DataW.trod enc Try.prog w base sp held n 44 ((List.drop 2 [c0,c1,c2,c3]).take (Try.prog.cellsOf 44)) = some y2:=(hf 2 _ rfl).trans hy2
  rw [show Try.prog.cellsOf 44 = 1 from by kernel_rfl] at f2
  have g2:=Light.part (P:=Try.prog) Try.underlying47 (i:=2) rfl hy2 hL
  obtain ⟨d2,t2⟩:=(iN (k:=3) (bt:=24) Try.underlying44 (by kernel_rfl) (by kernel_rfl) (by omega) LQ) H enc w base sp held n _ _ f2 g2
  obtain ⟨y3,hy3⟩ : ∃ y,xs[3]? = some y:=⟨xs[3]'(by rw [hxl]; simp),by simp⟩
  have f3:DataW.trod enc Try.prog w base sp held n 45 ((List.drop 3 [c0,c1,c2,c3]).take (Try.prog.cellsOf 45)) = some y3:=(hf 3 _ rfl).trans hy3
  rw [show Try.prog.cellsOf 45 = 1 from by kernel_rfl] at f3
  have g3:=Light.part (P:=Try.prog) Try.underlying47 (i:=3) rfl hy3 hL
  obtain ⟨d3,t3⟩:=(iN (k:=4) (bt:=48) Try.underlying45 (by kernel_rfl) (by kernel_rfl) (by omega) QM) H enc w base sp held n _ _ f3 g3
  obtain ⟨e0,q0⟩:=t0
  have e1:(_:List Value) = _:=t1
  obtain ⟨u2,e2,q2⟩:=t2
  obtain ⟨u3,e3,q3⟩:=t3
  simp at e0 e1 e2 e3
  exact ⟨⟨d0,d1,d2,d3⟩,u2,u3,by simp [e0,e1,e2,e3],q0,q2,q3⟩
def dB.TV (w:World) (x:dB) (cs:List Value):Prop :=
 cs = [.int .i64 x.From,.int .i64 x.To,.int .i64 x.Days] ∧ (Lit.int .i64 x.From).wf = true ∧ (Lit.int .i64 x.To).wf = true ∧ (Lit.int .i64 x.Days).wf = true
def dB.wf (x:dB):Prop:=IZ x.From ∧ IZ x.To ∧ IZ x.Days
theorem dB.TV_wf (w:World) (x:dB) (cs:List Value) (h:dB.TV w x cs):dB.wf x:=by
 obtain ⟨e,q0,q1,q2⟩:=h
 exact ⟨kA q0,kA q1,kA q2⟩
theorem dB.rds:RP dB.TV dB.cells 3:=fun w x cs h=>by
 obtain ⟨e,q0,q1,q2⟩:=h
 subst e
 exact ⟨qZ.cons (.int _ _) rfl (qZ.cons (.int _ _) rfl (qZ.cons (.int _ _) rfl (qZ.nil _))),rfl⟩
theorem LO:wB Try.prog 96 dB.TV:=fun H enc w base sp held fuel cs x h hL=>by
 obtain ⟨xs,n,hfuel,hxx,hlen,hxl,hf⟩:=DataW.trod_struct Try.underlying96 h
 subst hxx
 have hl:cs.length = 3:=hlen.trans (by kernel_rfl)
 match cs,hl with
 | [c0,c1,c2],_ =>
  obtain ⟨y0,hy0⟩ : ∃ y,xs[0]? = some y:=⟨xs[0]'(by rw [hxl]; simp),by simp⟩
  have f0:DataW.trod enc Try.prog w base sp held n 3 ((List.drop 0 [c0,c1,c2]).take (Try.prog.cellsOf 3)) = some y0:=(hf 0 _ rfl).trans hy0
  rw [show Try.prog.cellsOf 3 = 1 from by kernel_rfl] at f0
  have g0:=Light.part (P:=Try.prog) Try.underlying96 (i:=0) rfl hy0 hL
  obtain ⟨d0,t0⟩:=(fN Try.underlying3) H enc w base sp held n _ _ f0 g0
  obtain ⟨y1,hy1⟩ : ∃ y,xs[1]? = some y:=⟨xs[1]'(by rw [hxl]; simp),by simp⟩
  have f1:DataW.trod enc Try.prog w base sp held n 3 ((List.drop 1 [c0,c1,c2]).take (Try.prog.cellsOf 3)) = some y1:=(hf 1 _ rfl).trans hy1
  rw [show Try.prog.cellsOf 3 = 1 from by kernel_rfl] at f1
  have g1:=Light.part (P:=Try.prog) Try.underlying96 (i:=1) rfl hy1 hL
  obtain ⟨d1,t1⟩:=(fN Try.underlying3) H enc w base sp held n _ _ f1 g1
  obtain ⟨y2,hy2⟩ : ∃ y,xs[2]? = some y:=⟨xs[2]'(by rw [hxl]; simp),by simp⟩
  have f2:DataW.trod enc Try.prog w base sp held n 3 ((List.drop 2 [c0,c1,c2]).take (Try.prog.cellsOf 3)) = some y2:=(hf 2 _ rfl).trans hy2
  rw [show Try.prog.cellsOf 3 = 1 from by kernel_rfl] at f2
  have g2:=Light.part (P:=Try.prog) Try.underlying96 (i:=2) rfl hy2 hL
  obtain ⟨d2,t2⟩:=(fN Try.underlying3) H enc w base sp held n _ _ f2 g2
  obtain ⟨e0,q0⟩:=t0
  obtain ⟨e1,q1⟩:=t1
  obtain ⟨e2,q2⟩:=t2
  simp at e0 e1 e2
  exact ⟨⟨d0,d1,d2⟩,by simp [e0,e1,e2],q0,q1,q2⟩
def eN.TV (w:World) (x:eN) (cs:List Value):Prop :=
 cs = [.int .i64 x.From,.int .i64 x.To,.int .i64 x.Num,.int .i64 x.Den,.int .i64 x.Since] ∧ (Lit.int .i64 x.From).wf = true ∧ (Lit.int .i64 x.To).wf = true ∧ (Lit.int .i64 x.Num).wf = true ∧ (Lit.int .i64 x.Den).wf = true ∧ (Lit.int .i64 x.Since).wf = true
def eN.wf (x:eN):Prop:=IZ x.From ∧ IZ x.To ∧ IZ x.Num ∧ IZ x.Den ∧ IZ x.Since
theorem eN.TV_wf (w:World) (x:eN) (cs:List Value) (h:eN.TV w x cs):eN.wf x:=by
 obtain ⟨e,q0,q1,q2,q3,q4⟩:=h
 exact ⟨kA q0,kA q1,kA q2,kA q3,kA q4⟩
theorem eN.rds:RP eN.TV eN.cells 5:=fun w x cs h=>by
 obtain ⟨e,q0,q1,q2,q3,q4⟩:=h
 subst e
 exact ⟨qZ.cons (.int _ _) rfl (qZ.cons (.int _ _) rfl (qZ.cons (.int _ _) rfl (qZ.cons (.int _ _) rfl (qZ.cons (.int _ _) rfl (qZ.nil _))))),rfl⟩
theorem OM:wB Try.prog 98 eN.TV:=fun H enc w base sp held fuel cs x h hL=>by
 obtain ⟨xs,n,hfuel,hxx,hlen,hxl,hf⟩:=DataW.trod_struct Try.underlying98 h
 subst hxx
 have hl:cs.length = 5:=hlen.trans (by kernel_rfl)
 match cs,hl with
 | [c0,c1,c2,c3,c4],_ =>
  obtain ⟨y0,hy0⟩ : ∃ y,xs[0]? = some y:=⟨xs[0]'(by rw [hxl]; simp),by simp⟩
  have f0:DataW.trod enc Try.prog w base sp held n 3 ((List.drop 0 [c0,c1,c2,c3,c4]).take (Try.prog.cellsOf 3)) = some y0:=(hf 0 _ rfl).trans hy0
  rw [show Try.prog.cellsOf 3 = 1 from by kernel_rfl] at f0
  have g0:=Light.part (P:=Try.prog) Try.underlying98 (i:=0) rfl hy0 hL
  obtain ⟨d0,t0⟩:=(fN Try.underlying3) H enc w base sp held n _ _ f0 g0
  obtain ⟨y1,hy1⟩ : ∃ y,xs[1]? = some y:=⟨xs[1]'(by rw [hxl]; simp),by simp⟩
  have f1:DataW.trod enc Try.prog w base sp held n 3 ((List.drop 1 [c0,c1,c2,c3,c4]).take (Try.prog.cellsOf 3)) = some y1:=(hf 1 _ rfl).trans hy1
  rw [show Try.prog.cellsOf 3 = 1 from by kernel_rfl] at f1
  have g1:=Light.part (P:=Try.prog) Try.underlying98 (i:=1) rfl hy1 hL
  obtain ⟨d1,t1⟩:=(fN Try.underlying3) H enc w base sp held n _ _ f1 g1
  obtain ⟨y2,hy2⟩ : ∃ y,xs[2]? = some y:=⟨xs[2]'(by rw [hxl]; simp),by simp⟩
  have f2:DataW.trod enc Try.prog w base sp held n 3 ((List.drop 2 [c0,c1,c2,c3,c4]).take (Try.prog.cellsOf 3)) = some y2:=(hf 2 _ rfl).trans hy2
  rw [show Try.prog.cellsOf 3 = 1 from by kernel_rfl] at f2
  have g2:=Light.part (P:=Try.prog) Try.underlying98 (i:=2) rfl hy2 hL
  obtain ⟨d2,t2⟩:=(fN Try.underlying3) H enc w base sp held n _ _ f2 g2
  obtain ⟨y3,hy3⟩ : ∃ y,xs[3]? = some y:=⟨xs[3]'(by rw [hxl]; simp),by simp⟩
  have f3:DataW.trod enc Try.prog w base sp held n 3 ((List.drop 3 [c0,c1,c2,c3,c4]).take (Try.prog.cellsOf 3)) = some y3:=(hf 3 _ rfl).trans hy3
  rw [show Try.prog.cellsOf 3 = 1 from by kernel_rfl] at f3
  have g3:=Light.part (P:=Try.prog) Try.underlying98 (i:=3) rfl hy3 hL
  obtain ⟨d3,t3⟩:=(fN Try.underlying3) H enc w base sp held n _ _ f3 g3
  obtain ⟨y4,hy4⟩ : ∃ y,xs[4]? = some y:=⟨xs[4]'(by rw [hxl]; simp),by simp⟩
  have f4:DataW.trod enc Try.prog w base sp held n 3 ((List.drop 4 [c0,c1,c2,c3,c4]).take (Try.prog.cellsOf 3)) = some y4:=(hf 4 _ rfl).trans hy4
  rw [show Try.prog.cellsOf 3 = 1 from by kernel_rfl] at f4
  have g4:=Light.part (P:=Try.prog) Try.underlying98 (i:=4) rfl hy4 hL
  obtain ⟨d4,t4⟩:=(fN Try.underlying3) H enc w base sp held n _ _ f4 g4
  obtain ⟨e0,q0⟩:=t0
  obtain ⟨e1,q1⟩:=t1
  obtain ⟨e2,q2⟩:=t2
  obtain ⟨e3,q3⟩:=t3
  obtain ⟨e4,q4⟩:=t4
  simp at e0 e1 e2 e3 e4
  exact ⟨⟨d0,d1,d2,d3,d4⟩,by simp [e0,e1,e2,e3,e4],q0,q1,q2,q3,q4⟩
def eY.TV (w:World) (x:eY) (cs:List Value):Prop :=
 cs = [.int .i64 x.Order,.int .i64 x.From,.int .i64 x.To] ∧ (Lit.int .i64 x.Order).wf = true ∧ (Lit.int .i64 x.From).wf = true ∧ (Lit.int .i64 x.To).wf = true
def eY.wf (x:eY):Prop:=IZ x.Order ∧ IZ x.From ∧ IZ x.To
theorem eY.TV_wf (w:World) (x:eY) (cs:List Value) (h:eY.TV w x cs):eY.wf x:=by
 obtain ⟨e,q0,q1,q2⟩:=h
 exact ⟨kA q0,kA q1,kA q2⟩
theorem eY.rds:RP eY.TV eY.cells 3:=fun w x cs h=>by
 obtain ⟨e,q0,q1,q2⟩:=h
 subst e
 exact ⟨qZ.cons (.int _ _) rfl (qZ.cons (.int _ _) rfl (qZ.cons (.int _ _) rfl (qZ.nil _))),rfl⟩
theorem Q4:wB Try.prog 100 eY.TV:=fun H enc w base sp held fuel cs x h hL=>by
 obtain ⟨xs,n,hfuel,hxx,hlen,hxl,hf⟩:=DataW.trod_struct Try.underlying100 h
 subst hxx
 have hl:cs.length = 3:=hlen.trans (by kernel_rfl)
 match cs,hl with
 | [c0,c1,c2],_ =>
  obtain ⟨y0,hy0⟩ : ∃ y,xs[0]? = some y:=⟨xs[0]'(by rw [hxl]; simp),by simp⟩
  have f0:DataW.trod enc Try.prog w base sp held n 3 ((List.drop 0 [c0,c1,c2]).take (Try.prog.cellsOf 3)) = some y0:=(hf 0 _ rfl).trans hy0
  rw [show Try.prog.cellsOf 3 = 1 from by kernel_rfl] at f0
  have g0:=Light.part (P:=Try.prog) Try.underlying100 (i:=0) rfl hy0 hL
  obtain ⟨d0,t0⟩:=(fN Try.underlying3) H enc w base sp held n _ _ f0 g0
  obtain ⟨y1,hy1⟩ : ∃ y,xs[1]? = some y:=⟨xs[1]'(by rw [hxl]; simp),by simp⟩
  have f1:DataW.trod enc Try.prog w base sp held n 3 ((List.drop 1 [c0,c1,c2]).take (Try.prog.cellsOf 3)) = some y1:=(hf 1 _ rfl).trans hy1
  rw [show Try.prog.cellsOf 3 = 1 from by kernel_rfl] at f1
  have g1:=Light.part (P:=Try.prog) Try.underlying100 (i:=1) rfl hy1 hL
  obtain ⟨d1,t1⟩:=(fN Try.underlying3) H enc w base sp held n _ _ f1 g1
  obtain ⟨y2,hy2⟩ : ∃ y,xs[2]? = some y:=⟨xs[2]'(by rw [hxl]; simp),by simp⟩
  have f2:DataW.trod enc Try.prog w base sp held n 3 ((List.drop 2 [c0,c1,c2]).take (Try.prog.cellsOf 3)) = some y2:=(hf 2 _ rfl).trans hy2
  rw [show Try.prog.cellsOf 3 = 1 from by kernel_rfl] at f2
  have g2:=Light.part (P:=Try.prog) Try.underlying100 (i:=2) rfl hy2 hL
  obtain ⟨d2,t2⟩:=(fN Try.underlying3) H enc w base sp held n _ _ f2 g2
  obtain ⟨e0,q0⟩:=t0
  obtain ⟨e1,q1⟩:=t1
  obtain ⟨e2,q2⟩:=t2
  simp at e0 e1 e2
  exact ⟨⟨d0,d1,d2⟩,by simp [e0,e1,e2],q0,q1,q2⟩
def aB.TV (w:World) (x:aB) (cs:List Value):Prop :=
 ∃ v0 v1 v2 v3 v4 v5 v6 v7:Value,cs = [v0,v1,v2,v3,v4,v5,v6,v7] ∧ Sq w aAy 1 16 v0 x.Currencies ∧ Sq w dT.TV 6 104 v1 x.Cities ∧ Sq w eH.TV 1 8 v2 x.Groups ∧ Sq w eV.TV 3 32 v3 x.Firms ∧ Sq w b4.TV 4 72 v4 x.Orders ∧ Sq w dB.TV 3 24 v5 x.Usances ∧ Sq w eN.TV 5 40 v6 x.Rates ∧ Sq w eY.TV 3 24 v7 x.Halts
def aB.wf (x:aB):Prop:=Wl Ws x.Currencies ∧ Wl dT.wf x.Cities ∧ Wl eH.wf x.Groups ∧ Wl eV.wf x.Firms ∧ Wl b4.wf x.Orders ∧ Wl dB.wf x.Usances ∧ Wl eN.wf x.Rates ∧ Wl eY.wf x.Halts
theorem aB.TV_wf (w:World) (x:aB) (cs:List Value) (h:aB.TV w x cs):aB.wf x:=by
 obtain ⟨v0,v1,v2,v3,v4,v5,v6,v7,e,q0,q1,q2,q3,q4,q5,q6,q7⟩:=h
 exact ⟨q0.wl (fun w x cs h=>U4 h.2),q1.wl dT.TV_wf,q2.wl eH.TV_wf,q3.wl eV.TV_wf,q4.wl b4.TV_wf,q5.wl dB.TV_wf,q6.wl eN.TV_wf,q7.wl eY.TV_wf⟩
theorem aB.rds:RP aB.TV aB.cells 8:=fun w x cs h=>by
 obtain ⟨v0,v1,v2,v3,v4,v5,v6,v7,e,q0,q1,q2,q3,q4,q5,q6,q7⟩:=h
 subst e
 exact ⟨qZ.cons (q0.reads aEw) rfl (qZ.cons (q1.reads dT.rds) rfl (qZ.cons (q2.reads eH.rds) rfl (qZ.cons (q3.reads eV.rds) rfl (qZ.cons (q4.reads b4.rds) rfl (qZ.cons (q5.reads dB.rds) rfl (qZ.cons (q6.reads eN.rds) rfl (qZ.cons (q7.reads eY.rds) rfl (qZ.nil _)))))))),rfl⟩
theorem NQ:wB Try.prog 31 aB.TV:=fun H enc w base sp held fuel cs x h hL=>by
 obtain ⟨xs,n,hfuel,hxx,hlen,hxl,hf⟩:=DataW.trod_struct Try.underlying31 h
 subst hxx
 have hl:cs.length = 8:=hlen.trans (by kernel_rfl)
 match cs,hl with
 | [c0,c1,c2,c3,c4,c5,c6,c7],_ =>
  obtain ⟨y0,hy0⟩ : ∃ y,xs[0]? = some y:=⟨xs[0]'(by rw [hxl]; simp),by simp⟩
  have f0:DataW.trod enc Try.prog w base sp held n 22 ((List.drop 0 [c0,c1,c2,c3,c4,c5,c6,c7]).take (Try.prog.cellsOf 22)) = some y0:=(hf 0 _ rfl).trans hy0
  rw [show Try.prog.cellsOf 22 = 1 from by kernel_rfl] at f0
  have g0:=Light.part (P:=Try.prog) Try.underlying31 (i:=0) rfl hy0 hL
  obtain ⟨d0,t0⟩:=(iN (k:=1) (bt:=16) Try.underlying22 (by kernel_rfl) (by kernel_rfl) (by omega) (CZ Try.underlying9)) H enc w base sp held n _ _ f0 g0
  obtain ⟨y1,hy1⟩ : ∃ y,xs[1]? = some y:=⟨xs[1]'(by rw [hxl]; simp),by simp⟩
  have f1:DataW.trod enc Try.prog w base sp held n 23 ((List.drop 1 [c0,c1,c2,c3,c4,c5,c6,c7]).take (Try.prog.cellsOf 23)) = some y1:=(hf 1 _ rfl).trans hy1
  rw [show Try.prog.cellsOf 23 = 1 from by kernel_rfl] at f1
  have g1:=Light.part (P:=Try.prog) Try.underlying31 (i:=1) rfl hy1 hL
  obtain ⟨d1,t1⟩:=(iN (k:=6) (bt:=104) Try.underlying23 (by kernel_rfl) (by kernel_rfl) (by omega) P3) H enc w base sp held n _ _ f1 g1
  obtain ⟨y2,hy2⟩ : ∃ y,xs[2]? = some y:=⟨xs[2]'(by rw [hxl]; simp),by simp⟩
  have f2:DataW.trod enc Try.prog w base sp held n 24 ((List.drop 2 [c0,c1,c2,c3,c4,c5,c6,c7]).take (Try.prog.cellsOf 24)) = some y2:=(hf 2 _ rfl).trans hy2
  rw [show Try.prog.cellsOf 24 = 1 from by kernel_rfl] at f2
  have g2:=Light.part (P:=Try.prog) Try.underlying31 (i:=2) rfl hy2 hL
  obtain ⟨d2,t2⟩:=(iN (k:=1) (bt:=8) Try.underlying24 (by kernel_rfl) (by kernel_rfl) (by omega) N3) H enc w base sp held n _ _ f2 g2
  obtain ⟨y3,hy3⟩ : ∃ y,xs[3]? = some y:=⟨xs[3]'(by rw [hxl]; simp),by simp⟩
  have f3:DataW.trod enc Try.prog w base sp held n 25 ((List.drop 3 [c0,c1,c2,c3,c4,c5,c6,c7]).take (Try.prog.cellsOf 25)) = some y3:=(hf 3 _ rfl).trans hy3
  rw [show Try.prog.cellsOf 25 = 1 from by kernel_rfl] at f3
  have g3:=Light.part (P:=Try.prog) Try.underlying31 (i:=3) rfl hy3 hL
  obtain ⟨d3,t3⟩:=(iN (k:=3) (bt:=32) Try.underlying25 (by kernel_rfl) (by kernel_rfl) (by omega) OT) H enc w base sp held n _ _ f3 g3
  obtain ⟨y4,hy4⟩ : ∃ y,xs[4]? = some y:=⟨xs[4]'(by rw [hxl]; simp),by simp⟩
  have f4:DataW.trod enc Try.prog w base sp held n 26 ((List.drop 4 [c0,c1,c2,c3,c4,c5,c6,c7]).take (Try.prog.cellsOf 26)) = some y4:=(hf 4 _ rfl).trans hy4
  rw [show Try.prog.cellsOf 26 = 1 from by kernel_rfl] at f4
  have g4:=Light.part (P:=Try.prog) Try.underlying31 (i:=4) rfl hy4 hL
  obtain ⟨d4,t4⟩:=(iN (k:=4) (bt:=72) Try.underlying26 (by kernel_rfl) (by kernel_rfl) (by omega) NE) H enc w base sp held n _ _ f4 g4
  obtain ⟨y5,hy5⟩ : ∃ y,xs[5]? = some y:=⟨xs[5]'(by rw [hxl]; simp),by simp⟩
  have f5:DataW.trod enc Try.prog w base sp held n 27 ((List.drop 5 [c0,c1,c2,c3,c4,c5,c6,c7]).take (Try.prog.cellsOf 27)) = some y5:=(hf 5 _ rfl).trans hy5
  rw [show Try.prog.cellsOf 27 = 1 from by kernel_rfl] at f5
  have g5:=Light.part (P:=Try.prog) Try.underlying31 (i:=5) rfl hy5 hL
  obtain ⟨d5,t5⟩:=(iN (k:=3) (bt:=24) Try.underlying27 (by kernel_rfl) (by kernel_rfl) (by omega) LO) H enc w base sp held n _ _ f5 g5
  obtain ⟨y6,hy6⟩ : ∃ y,xs[6]? = some y:=⟨xs[6]'(by rw [hxl]; simp),by simp⟩
  have f6:DataW.trod enc Try.prog w base sp held n 28 ((List.drop 6 [c0,c1,c2,c3,c4,c5,c6,c7]).take (Try.prog.cellsOf 28)) = some y6:=(hf 6 _ rfl).trans hy6
  rw [show Try.prog.cellsOf 28 = 1 from by kernel_rfl] at f6
  have g6:=Light.part (P:=Try.prog) Try.underlying31 (i:=6) rfl hy6 hL
  obtain ⟨d6,t6⟩:=(iN (k:=5) (bt:=40) Try.underlying28 (by kernel_rfl) (by kernel_rfl) (by omega) OM) H enc w base sp held n _ _ f6 g6
  obtain ⟨y7,hy7⟩ : ∃ y,xs[7]? = some y:=⟨xs[7]'(by rw [hxl]; simp),by simp⟩
  have f7:DataW.trod enc Try.prog w base sp held n 29 ((List.drop 7 [c0,c1,c2,c3,c4,c5,c6,c7]).take (Try.prog.cellsOf 29)) = some y7:=(hf 7 _ rfl).trans hy7
  rw [show Try.prog.cellsOf 29 = 1 from by kernel_rfl] at f7
  have g7:=Light.part (P:=Try.prog) Try.underlying31 (i:=7) rfl hy7 hL
  obtain ⟨d7,t7⟩:=(iN (k:=3) (bt:=24) Try.underlying29 (by kernel_rfl) (by kernel_rfl) (by omega) Q4) H enc w base sp held n _ _ f7 g7
  obtain ⟨u0,e0,q0⟩:=t0
  obtain ⟨u1,e1,q1⟩:=t1
  obtain ⟨u2,e2,q2⟩:=t2
  obtain ⟨u3,e3,q3⟩:=t3
  obtain ⟨u4,e4,q4⟩:=t4
  obtain ⟨u5,e5,q5⟩:=t5
  obtain ⟨u6,e6,q6⟩:=t6
  obtain ⟨u7,e7,q7⟩:=t7
  simp at e0 e1 e2 e3 e4 e5 e6 e7
  exact ⟨⟨d0,d1,d2,d3,d4,d5,d6,d7⟩,u0,u1,u2,u3,u4,u5,u6,u7,by simp [e0,e1,e2,e3,e4,e5,e6,e7],q0,q1,q2,q3,q4,q5,q6,q7⟩
end Go.Proofs.Ytjjcaapdaldedaa
