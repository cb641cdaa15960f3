/- How what a law is handed reads. Printed by a program. -/
import Derived.Test.YtfhebiceipgdmaaVmG
import Derived.Test.YtfhebiceipgdmaaTab
import Derived.KernelRfl
set_option linter.unusedVariables false
set_option maxRecDepth 100000
namespace Go.Proofs.Ytfhebiceipgdmaa
open Go.RowKit Go.ChangeShapes Go.WideShapes Go.Deep Vm
def bJ.TV (w:World) (x:bJ) (cs:List Value):Prop :=
 ∃ v0 v1 v2:Value,cs = [.string x.Name,.int .i64 x.Order,.int .i64 x.Currency,v0,v1,v2] ∧ x.Name.size ≤ maxLen ∧ (Lit.int .i64 x.Order).wf = true ∧ (Lit.int .i64 x.Currency).wf = true ∧ Sq w QG 1 8 v0 x.Rest ∧ Sq w QG 1 8 v1 x.Feasts ∧ Sq w QG 1 8 v2 x.Shut
def bJ.wf (x:bJ):Prop:=Ws x.Name ∧ pE x.Order ∧ pE x.Currency ∧ Wl pE x.Rest ∧ Wl pE x.Feasts ∧ Wl pE x.Shut
theorem bJ.TV_wf (w:World) (x:bJ) (cs:List Value) (h:bJ.TV w x cs):bJ.wf x:=by
 obtain ⟨v0,v1,v2,e,q0,q1,q2,q3,q4,q5⟩:=h
 exact ⟨W2 q0,wf_i64 q1,wf_i64 q2,q3.wl (fun w x cs h=>wf_i64 h.2),q4.wl (fun w x cs h=>wf_i64 h.2),q5.wl (fun w x cs h=>wf_i64 h.2)⟩
theorem bJ.rds:LC bJ.TV bJ.cells 6:=fun w x cs h=>by
 obtain ⟨v0,v1,v2,e,q0,q1,q2,q3,q4,q5⟩:=h
 subst e
 exact ⟨fP.cons (.str _ q0) rfl (fP.cons (.int _ _) rfl (fP.cons (.int _ _) rfl (fP.cons (q3.reads NQ) rfl (fP.cons (q4.reads NQ) rfl (fP.cons (q5.reads NQ) rfl (fP.nil _)))))),rfl⟩
theorem Q5:oP Try.prog 87 bJ.TV:=fun H enc w base sp held fuel cs x h hL=>by
 obtain ⟨xs,n,hfuel,hxx,hlen,hxl,hf⟩:=DataW.trod_struct Try.underlying87 h
 subst hxx
 have hl:cs.length = 6:=hlen.trans (by kernel_rfl)
 match cs,hl with
 | [c0,c1,c2,c3,c4,c5],_ =>
  obtain ⟨y0,hy0⟩ : ∃ y,xs[0]? = some y:=⟨xs[0]'(by rw [hxl]; simp),by simp⟩
  have f0:DataW.trod enc Try.prog w base sp held n 9 ((List.drop 0 [c0,c1,c2,c3,c4,c5]).take (Try.prog.cellsOf 9)) = some y0:=(hf 0 _ rfl).trans hy0
  rw [show Try.prog.cellsOf 9 = 1 from by kernel_rfl] at f0
  have g0:=b6.part (P:=Try.prog) Try.underlying87 (i:=0) rfl hy0 hL
  obtain ⟨d0,t0⟩:=(CW Try.underlying9) H enc w base sp held n _ _ f0 g0
  obtain ⟨y1,hy1⟩ : ∃ y,xs[1]? = some y:=⟨xs[1]'(by rw [hxl]; simp),by simp⟩
  have f1:DataW.trod enc Try.prog w base sp held n 3 ((List.drop 1 [c0,c1,c2,c3,c4,c5]).take (Try.prog.cellsOf 3)) = some y1:=(hf 1 _ rfl).trans hy1
  rw [show Try.prog.cellsOf 3 = 1 from by kernel_rfl] at f1
  have g1:=b6.part (P:=Try.prog) Try.underlying87 (i:=1) rfl hy1 hL
  obtain ⟨d1,t1⟩:=(bM Try.underlying3) H enc w base sp held n _ _ f1 g1
  obtain ⟨y2,hy2⟩ : ∃ y,xs[2]? = some y:=⟨xs[2]'(by rw [hxl]; simp),by simp⟩
  have f2:DataW.trod enc Try.prog w base sp held n 3 ((List.drop 2 [c0,c1,c2,c3,c4,c5]).take (Try.prog.cellsOf 3)) = some y2:=(hf 2 _ rfl).trans hy2
  rw [show Try.prog.cellsOf 3 = 1 from by kernel_rfl] at f2
  have g2:=b6.part (P:=Try.prog) Try.underlying87 (i:=2) rfl hy2 hL
  obtain ⟨d2,t2⟩:=(bM Try.underlying3) H enc w base sp held n _ _ f2 g2
  obtain ⟨y3,hy3⟩ : ∃ y,xs[3]? = some y:=⟨xs[3]'(by rw [hxl]; simp),by simp⟩
  have f3:DataW.trod enc Try.prog w base sp held n 68 ((List.drop 3 [c0,c1,c2,c3,c4,c5]).take (Try.prog.cellsOf 68)) = some y3:=(hf 3 _ rfl).trans hy3
  rw [show Try.prog.cellsOf 68 = 1 from by kernel_rfl] at f3
  have g3:=b6.part (P:=Try.prog) Try.underlying87 (i:=3) rfl hy3 hL
  obtain ⟨d3,t3⟩:=(eV (k:=1) (bt:=8) Try.underlying68 (by kernel_rfl) (by kernel_rfl) (by omega) (bM Try.underlying3)) H enc w base sp held n _ _ f3 g3
  obtain ⟨y4,hy4⟩ : ∃ y,xs[4]? = some y:=⟨xs[4]'(by rw [hxl]; simp),by simp⟩
  have f4:DataW.trod enc Try.prog w base sp held n 68 ((List.drop 4 [c0,c1,c2,c3,c4,c5]).take (Try.prog.cellsOf 68)) = some y4:=(hf 4 _ rfl).trans hy4
  rw [show Try.prog.cellsOf 68 = 1 from by kernel_rfl] at f4
  have g4:=b6.part (P:=Try.prog) Try.underlying87 (i:=4) rfl hy4 hL
  obtain ⟨d4,t4⟩:=(eV (k:=1) (bt:=8) Try.underlying68 (by kernel_rfl) (by kernel_rfl) (by omega) (bM Try.underlying3)) H enc w base sp held n _ _ f4 g4
  obtain ⟨y5,hy5⟩ : ∃ y,xs[5]? = some y:=⟨xs[5]'(by rw [hxl]; simp),by simp⟩
  have f5:DataW.trod enc Try.prog w base sp held n 68 ((List.drop 5 [c0,c1,c2,c3,c4,c5]).take (Try.prog.cellsOf 68)) = some y5:=(hf 5 _ rfl).trans hy5
  rw [show Try.prog.cellsOf 68 = 1 from by kernel_rfl] at f5
  have g5:=b6.part (P:=Try.prog) Try.underlying87 (i:=5) rfl hy5 hL
  obtain ⟨d5,t5⟩:=(eV (k:=1) (bt:=8) Try.underlying68 (by kernel_rfl) (by kernel_rfl) (by omega) (bM Try.underlying3)) H enc w base sp held n _ _ f5 g5
  obtain ⟨e0,q0⟩:=t0
  obtain ⟨e1,q1⟩:=t1
  obtain ⟨e2,q2⟩:=t2
  obtain ⟨u3,e3,q3⟩:=t3
  obtain ⟨u4,e4,q4⟩:=t4
  obtain ⟨u5,e5,q5⟩:=t5
  simp at e0 e1 e2 e3 e4 e5
  exact ⟨⟨d0,d1,d2,d3,d4,d5⟩,u3,u4,u5,by simp [e0,e1,e2,e3,e4,e5],q0,q1,q2,q3,q4,q5⟩
def bN.TV (w:World) (x:bN) (cs:List Value):Prop :=
 cs = [.int .i64 x.Grade] ∧ (Lit.int .i64 x.Grade).wf = true
def bN.wf (x:bN):Prop:=pE x.Grade
theorem bN.TV_wf (w:World) (x:bN) (cs:List Value) (h:bN.TV w x cs):bN.wf x:=by
 obtain ⟨e,q0⟩:=h
 exact wf_i64 q0
theorem bN.rds:LC bN.TV bN.cells 1:=fun w x cs h=>by
 obtain ⟨e,q0⟩:=h
 subst e
 exact ⟨fP.cons (.int _ _) rfl (fP.nil _),rfl⟩
theorem OO:oP Try.prog 113 bN.TV:=fun H enc w base sp held fuel cs x h hL=>by
 obtain ⟨xs,n,hfuel,hxx,hlen,hxl,hf⟩:=DataW.trod_struct Try.underlying113 h
 subst hxx
 have hl:cs.length = 1:=hlen.trans (by kernel_rfl)
 match cs,hl with
 | [c0],_ =>
  obtain ⟨y0,hy0⟩ : ∃ y,xs[0]? = some y:=⟨xs[0]'(by rw [hxl]; simp),by simp⟩
  have f0:DataW.trod enc Try.prog w base sp held n 3 ((List.drop 0 [c0]).take (Try.prog.cellsOf 3)) = some y0:=(hf 0 _ rfl).trans hy0
  rw [show Try.prog.cellsOf 3 = 1 from by kernel_rfl] at f0
  have g0:=b6.part (P:=Try.prog) Try.underlying113 (i:=0) rfl hy0 hL
  obtain ⟨d0,t0⟩:=(bM Try.underlying3) H enc w base sp held n _ _ f0 g0
  obtain ⟨e0,q0⟩:=t0
  simp at e0
  exact ⟨⟨d0⟩,by simp [e0],q0⟩
def bU.TV (w:World) (x:bU) (cs:List Value):Prop :=
 cs = [.string x.Name,.int .i64 x.City,.int .i64 x.Group] ∧ x.Name.size ≤ maxLen ∧ (Lit.int .i64 x.City).wf = true ∧ (Lit.int .i64 x.Group).wf = true
def bU.wf (x:bU):Prop:=Ws x.Name ∧ pE x.City ∧ pE x.Group
theorem bU.TV_wf (w:World) (x:bU) (cs:List Value) (h:bU.TV w x cs):bU.wf x:=by
 obtain ⟨e,q0,q1,q2⟩:=h
 exact ⟨W2 q0,wf_i64 q1,wf_i64 q2⟩
theorem bU.rds:LC bU.TV bU.cells 3:=fun w x cs h=>by
 obtain ⟨e,q0,q1,q2⟩:=h
 subst e
 exact ⟨fP.cons (.str _ q0) rfl (fP.cons (.int _ _) rfl (fP.cons (.int _ _) rfl (fP.nil _))),rfl⟩
theorem Q6:oP Try.prog 115 bU.TV:=fun H enc w base sp held fuel cs x h hL=>by
 obtain ⟨xs,n,hfuel,hxx,hlen,hxl,hf⟩:=DataW.trod_struct Try.underlying115 h
 subst hxx
 have hl:cs.length = 3:=hlen.trans (by kernel_rfl)
 match cs,hl with
 | [c0,c1,c2],_ =>
  obtain ⟨y0,hy0⟩ : ∃ y,xs[0]? = some y:=⟨xs[0]'(by rw [hxl]; simp),by simp⟩
  have f0:DataW.trod enc Try.prog w base sp held n 9 ((List.drop 0 [c0,c1,c2]).take (Try.prog.cellsOf 9)) = some y0:=(hf 0 _ rfl).trans hy0
  rw [show Try.prog.cellsOf 9 = 1 from by kernel_rfl] at f0
  have g0:=b6.part (P:=Try.prog) Try.underlying115 (i:=0) rfl hy0 hL
  obtain ⟨d0,t0⟩:=(CW Try.underlying9) H enc w base sp held n _ _ f0 g0
  obtain ⟨y1,hy1⟩ : ∃ y,xs[1]? = some y:=⟨xs[1]'(by rw [hxl]; simp),by simp⟩
  have f1:DataW.trod enc Try.prog w base sp held n 3 ((List.drop 1 [c0,c1,c2]).take (Try.prog.cellsOf 3)) = some y1:=(hf 1 _ rfl).trans hy1
  rw [show Try.prog.cellsOf 3 = 1 from by kernel_rfl] at f1
  have g1:=b6.part (P:=Try.prog) Try.underlying115 (i:=1) rfl hy1 hL
  obtain ⟨d1,t1⟩:=(bM Try.underlying3) H enc w base sp held n _ _ f1 g1
  obtain ⟨y2,hy2⟩ : ∃ y,xs[2]? = some y:=⟨xs[2]'(by rw [hxl]; simp),by simp⟩
  have f2:DataW.trod enc Try.prog w base sp held n 3 ((List.drop 2 [c0,c1,c2]).take (Try.prog.cellsOf 3)) = some y2:=(hf 2 _ rfl).trans hy2
  rw [show Try.prog.cellsOf 3 = 1 from by kernel_rfl] at f2
  have g2:=b6.part (P:=Try.prog) Try.underlying115 (i:=2) rfl hy2 hL
  obtain ⟨d2,t2⟩:=(bM Try.underlying3) H enc w base sp held n _ _ f2 g2
  obtain ⟨e0,q0⟩:=t0
  obtain ⟨e1,q1⟩:=t1
  obtain ⟨e2,q2⟩:=t2
  simp at e0 e1 e2
  exact ⟨⟨d0,d1,d2⟩,by simp [e0,e1,e2],q0,q1,q2⟩
def bE.TV (w:World) (x:bE) (cs:List Value):Prop :=
 cs = [.int .i64 x.Ask,.int .i64 x.By,.bool x.Whole] ∧ (Lit.int .i64 x.Ask).wf = true ∧ (Lit.int .i64 x.By).wf = true
def bE.wf (x:bE):Prop:=pE x.Ask ∧ pE x.By
theorem bE.TV_wf (w:World) (x:bE) (cs:List Value) (h:bE.TV w x cs):bE.wf x:=by
 obtain ⟨e,q0,q1⟩:=h
 exact ⟨wf_i64 q0,wf_i64 q1⟩
theorem bE.rds:LC bE.TV bE.cells 3:=fun w x cs h=>by
 obtain ⟨e,q0,q1⟩:=h
 subst e
 exact ⟨fP.cons (.int _ _) rfl (fP.cons (.int _ _) rfl (fP.cons (.bool _) rfl (fP.nil _))),rfl⟩
theorem LD:oP Try.prog 137 bE.TV:=fun H enc w base sp held fuel cs x h hL=>by
 obtain ⟨xs,n,hfuel,hxx,hlen,hxl,hf⟩:=DataW.trod_struct Try.underlying137 h
 subst hxx
 have hl:cs.length = 3:=hlen.trans (by kernel_rfl)
 match cs,hl with
 | [c0,c1,c2],_ =>
  obtain ⟨y0,hy0⟩ : ∃ y,xs[0]? = some y:=⟨xs[0]'(by rw [hxl]; simp),by simp⟩
  have f0:DataW.trod enc Try.prog w base sp held n 3 ((List.drop 0 [c0,c1,c2]).take (Try.prog.cellsOf 3)) = some y0:=(hf 0 _ rfl).trans hy0
  rw [show Try.prog.cellsOf 3 = 1 from by kernel_rfl] at f0
  have g0:=b6.part (P:=Try.prog) Try.underlying137 (i:=0) rfl hy0 hL
  obtain ⟨d0,t0⟩:=(bM Try.underlying3) H enc w base sp held n _ _ f0 g0
  obtain ⟨y1,hy1⟩ : ∃ y,xs[1]? = some y:=⟨xs[1]'(by rw [hxl]; simp),by simp⟩
  have f1:DataW.trod enc Try.prog w base sp held n 3 ((List.drop 1 [c0,c1,c2]).take (Try.prog.cellsOf 3)) = some y1:=(hf 1 _ rfl).trans hy1
  rw [show Try.prog.cellsOf 3 = 1 from by kernel_rfl] at f1
  have g1:=b6.part (P:=Try.prog) Try.underlying137 (i:=1) rfl hy1 hL
  obtain ⟨d1,t1⟩:=(bM Try.underlying3) H enc w base sp held n _ _ f1 g1
  obtain ⟨y2,hy2⟩ : ∃ y,xs[2]? = some y:=⟨xs[2]'(by rw [hxl]; simp),by simp⟩
  have f2:DataW.trod enc Try.prog w base sp held n 4 ((List.drop 2 [c0,c1,c2]).take (Try.prog.cellsOf 4)) = some y2:=(hf 2 _ rfl).trans hy2
  rw [show Try.prog.cellsOf 4 = 1 from by kernel_rfl] at f2
  have g2:=b6.part (P:=Try.prog) Try.underlying137 (i:=2) rfl hy2 hL
  obtain ⟨d2,t2⟩:=(KL Try.underlying4) H enc w base sp held n _ _ f2 g2
  obtain ⟨e0,q0⟩:=t0
  obtain ⟨e1,q1⟩:=t1
  have e2:(_:List Value) = _:=t2
  simp at e0 e1 e2
  exact ⟨⟨d0,d1,d2⟩,by simp [e0,e1,e2],q0,q1⟩
def b8.TV (w:World) (x:b8) (cs:List Value):Prop :=
 ∃ v0:Value,cs = [.int .i64 x.Op,.int .i64 x.N,v0] ∧ (Lit.int .i64 x.Op).wf = true ∧ (Lit.int .i64 x.N).wf = true ∧ Sq w (WF 3) 3 40 v0 x.Args
def b8.wf (x:b8):Prop:=pE x.Op ∧ pE x.N ∧ Wl (fun _=>True) x.Args
theorem b8.TV_wf (w:World) (x:b8) (cs:List Value) (h:b8.TV w x cs):b8.wf x:=by
 obtain ⟨v0,e,q0,q1,q2⟩:=h
 exact ⟨wf_i64 q0,wf_i64 q1,q2.wl (fun _ _ _ _=>trivial)⟩
theorem b8.rds:LC b8.TV b8.cells 3:=fun w x cs h=>by
 obtain ⟨v0,e,q0,q1,q2⟩:=h
 subst e
 exact ⟨fP.cons (.int _ _) rfl (fP.cons (.int _ _) rfl (fP.cons (q2.reads (WM 3)) rfl (fP.nil _))),rfl⟩
theorem PJ:oP Try.prog 140 b8.TV:=fun H enc w base sp held fuel=>by
 induction fuel using Nat.strongRecOn with
 | _ fuel ih =>
 intro cs x h hL
 obtain ⟨xs,n,hfuel,hxx,hlen,hxl,hf⟩:=DataW.trod_struct Try.underlying140 h
 subst hxx
 have hl:cs.length = 3:=hlen.trans (by kernel_rfl)
 match cs,hl with
 | [c0,c1,c2],_ =>
  obtain ⟨y0,hy0⟩ : ∃ y,xs[0]? = some y:=⟨xs[0]'(by rw [hxl]; simp),by simp⟩
  have f0:DataW.trod enc Try.prog w base sp held n 3 ((List.drop 0 [c0,c1,c2]).take (Try.prog.cellsOf 3)) = some y0:=(hf 0 _ rfl).trans hy0
  rw [show Try.prog.cellsOf 3 = 1 from by kernel_rfl] at f0
  have g0:=b6.part (P:=Try.prog) Try.underlying140 (i:=0) rfl hy0 hL
  obtain ⟨d0,t0⟩:=(bM Try.underlying3) H enc w base sp held n _ _ f0 g0
  obtain ⟨y1,hy1⟩ : ∃ y,xs[1]? = some y:=⟨xs[1]'(by rw [hxl]; simp),by simp⟩
  have f1:DataW.trod enc Try.prog w base sp held n 3 ((List.drop 1 [c0,c1,c2]).take (Try.prog.cellsOf 3)) = some y1:=(hf 1 _ rfl).trans hy1
  rw [show Try.prog.cellsOf 3 = 1 from by kernel_rfl] at f1
  have g1:=b6.part (P:=Try.prog) Try.underlying140 (i:=1) rfl hy1 hL
  obtain ⟨d1,t1⟩:=(bM Try.underlying3) H enc w base sp held n _ _ f1 g1
  obtain ⟨y2,hy2⟩ : ∃ y,xs[2]? = some y:=⟨xs[2]'(by rw [hxl]; simp),by simp⟩
  have f2:DataW.trod enc Try.prog w base sp held n 138 ((List.drop 2 [c0,c1,c2]).take (Try.prog.cellsOf 138)) = some y2:=(hf 2 _ rfl).trans hy2
  rw [show Try.prog.cellsOf 138 = 1 from by kernel_rfl] at f2
  have g2:=b6.part (P:=Try.prog) Try.underlying140 (i:=2) rfl hy2 hL
  obtain ⟨d2,t2⟩:=CH (k:=3) (bt:=40) (TV:=WF 3) Try.underlying138 (by kernel_rfl) (by kernel_rfl) (by omega) (fun m hm cs x h hL=>by obtain ⟨g,hg⟩:=ih m (by omega) cs x h hL; exact ⟨b8.cells g,b8.rds _ _ _ hg⟩) f2 g2
  obtain ⟨e0,q0⟩:=t0
  obtain ⟨e1,q1⟩:=t1
  obtain ⟨u2,e2,q2⟩:=t2
  simp at e0 e1 e2
  exact ⟨⟨d0,d1,d2⟩,u2,by simp [e0,e1,e2],q0,q1,q2⟩
def bW.TV (w:World) (x:bW) (cs:List Value):Prop :=
 ∃ v0:Value,cs = [.int .i64 x.Ask,.int .i64 x.Term.Op,.int .i64 x.Term.N,v0] ∧ (Lit.int .i64 x.Ask).wf = true ∧ (Lit.int .i64 x.Term.Op).wf = true ∧ (Lit.int .i64 x.Term.N).wf = true ∧ Sq w (WF 3) 3 40 v0 x.Term.Args
def bW.wf (x:bW):Prop:=pE x.Ask ∧ b8.wf x.Term
theorem bW.TV_wf (w:World) (x:bW) (cs:List Value) (h:bW.TV w x cs):bW.wf x:=by
 obtain ⟨v0,e,q0,q1,q2,q3⟩:=h
 exact ⟨wf_i64 q0,⟨wf_i64 q1,wf_i64 q2,q3.wl (fun _ _ _ _=>trivial)⟩⟩
theorem bW.rds:LC bW.TV bW.cells 4:=fun w x cs h=>by
 obtain ⟨v0,e,q0,q1,q2,q3⟩:=h
 subst e
 exact ⟨fP.cons (.int _ _) rfl (fP.cons (.int _ _) rfl (fP.cons (.int _ _) rfl (fP.cons (q3.reads (WM 3)) rfl (fP.nil _)))),rfl⟩
theorem QL:oP Try.prog 142 bW.TV:=fun H enc w base sp held fuel cs x h hL=>by
 obtain ⟨xs,n,hfuel,hxx,hlen,hxl,hf⟩:=DataW.trod_struct Try.underlying142 h
 subst hxx
 have hl:cs.length = 4:=hlen.trans (by kernel_rfl)
 match cs,hl with
 | [c0,c1,c2,c3],_ =>
  obtain ⟨y0,hy0⟩ : ∃ y,xs[0]? = some y:=⟨xs[0]'(by rw [hxl]; simp),by simp⟩
  have f0:DataW.trod enc Try.prog w base sp held n 3 ((List.drop 0 [c0,c1,c2,c3]).take (Try.prog.cellsOf 3)) = some y0:=(hf 0 _ rfl).trans hy0
  rw [show Try.prog.cellsOf 3 = 1 from by kernel_rfl] at f0
  have g0:=b6.part (P:=Try.prog) Try.underlying142 (i:=0) rfl hy0 hL
  obtain ⟨d0,t0⟩:=(bM Try.underlying3) H enc w base sp held n _ _ f0 g0
  obtain ⟨y1,hy1⟩ : ∃ y,xs[1]? = some y:=⟨xs[1]'(by rw [hxl]; simp),by simp⟩
  have f1:DataW.trod enc Try.prog w base sp held n 140 ((List.drop 1 [c0,c1,c2,c3]).take (Try.prog.cellsOf 140)) = some y1:=(hf 1 _ rfl).trans hy1
  rw [show Try.prog.cellsOf 140 = 3 from by kernel_rfl] at f1
  have g1:=b6.part (P:=Try.prog) Try.underlying142 (i:=1) rfl hy1 hL
  obtain ⟨d1,t1⟩:=PJ H enc w base sp held n _ _ f1 g1
  obtain ⟨e0,q0⟩:=t0
  obtain ⟨u1_0,e1,q1_0,q1_1,q1_2⟩:=t1
  simp at e0 e1
  exact ⟨⟨d0,d1⟩,u1_0,by simp [e0,e1],q0,q1_0,q1_1,q1_2⟩
def bC.TV (w:World) (x:bC) (cs:List Value):Prop :=
 ∃ v0 v1:Value,cs = [.string x.Name,.bool x.Accepts,v0,v1] ∧ x.Name.size ≤ maxLen ∧ Sq w bE.TV 3 24 v0 x.Choices ∧ Sq w bW.TV 4 48 v1 x.Rules
def bC.wf (x:bC):Prop:=Ws x.Name ∧ Wl bE.wf x.Choices ∧ Wl bW.wf x.Rules
theorem bC.TV_wf (w:World) (x:bC) (cs:List Value) (h:bC.TV w x cs):bC.wf x:=by
 obtain ⟨v0,v1,e,q0,q1,q2⟩:=h
 exact ⟨W2 q0,q1.wl bE.TV_wf,q2.wl bW.TV_wf⟩
theorem bC.rds:LC bC.TV bC.cells 4:=fun w x cs h=>by
 obtain ⟨v0,v1,e,q0,q1,q2⟩:=h
 subst e
 exact ⟨fP.cons (.str _ q0) rfl (fP.cons (.bool _) rfl (fP.cons (q1.reads bE.rds) rfl (fP.cons (q2.reads bW.rds) rfl (fP.nil _)))),rfl⟩
theorem NH:oP Try.prog 91 bC.TV:=fun H enc w base sp held fuel cs x h hL=>by
 obtain ⟨xs,n,hfuel,hxx,hlen,hxl,hf⟩:=DataW.trod_struct Try.underlying91 h
 subst hxx
 have hl:cs.length = 4:=hlen.trans (by kernel_rfl)
 match cs,hl with
 | [c0,c1,c2,c3],_ =>
  obtain ⟨y0,hy0⟩ : ∃ y,xs[0]? = some y:=⟨xs[0]'(by rw [hxl]; simp),by simp⟩
  have f0:DataW.trod enc Try.prog w base sp held n 9 ((List.drop 0 [c0,c1,c2,c3]).take (Try.prog.cellsOf 9)) = some y0:=(hf 0 _ rfl).trans hy0
  rw [show Try.prog.cellsOf 9 = 1 from by kernel_rfl] at f0
  have g0:=b6.part (P:=Try.prog) Try.underlying91 (i:=0) rfl hy0 hL
  obtain ⟨d0,t0⟩:=(CW Try.underlying9) H enc w base sp held n _ _ f0 g0
  obtain ⟨y1,hy1⟩ : ∃ y,xs[1]? = some y:=⟨xs[1]'(by rw [hxl]; simp),by simp⟩
  have f1:DataW.trod enc Try.prog w base sp held n 4 ((List.drop 1 [c0,c1,c2,c3]).take (Try.prog.cellsOf 4)) = some y1:=(hf 1 _ rfl).trans hy1
  rw [show Try.prog.cellsOf 4 = 1 from by kernel_rfl] at f1
  have g1:=b6.part (P:=Try.prog) Try.underlying91 (i:=1) rfl hy1 hL
  obtain ⟨d1,t1⟩:=(KL Try.underlying4) H enc w base sp held n _ _ f1 g1
  obtain ⟨y2,hy2⟩ : ∃ y,xs[2]? = some y:=⟨xs[2]'(by rw [hxl]; simp),by simp⟩
  have f2:DataW.trod enc Try.prog w base sp held n 88 ((List.drop 2 [c0,c1,c2,c3]).take (Try.prog.cellsOf 88)) = some y2:=(hf 2 _ rfl).trans hy2
  rw [show Try.prog.cellsOf 88 = 1 from by kernel_rfl] at f2
  have g2:=b6.part (P:=Try.prog) Try.underlying91 (i:=2) rfl hy2 hL
  obtain ⟨d2,t2⟩:=(eV (k:=3) (bt:=24) Try.underlying88 (by kernel_rfl) (by kernel_rfl) (by omega) LD) H enc w base sp held n _ _ f2 g2
  obtain ⟨y3,hy3⟩ : ∃ y,xs[3]? = some y:=⟨xs[3]'(by rw [hxl]; simp),by simp⟩
  have f3:DataW.trod enc Try.prog w base sp held n 89 ((List.drop 3 [c0,c1,c2,c3]).take (Try.prog.cellsOf 89)) = some y3:=(hf 3 _ rfl).trans hy3
  rw [show Try.prog.cellsOf 89 = 1 from by kernel_rfl] at f3
  have g3:=b6.part (P:=Try.prog) Try.underlying91 (i:=3) rfl hy3 hL
  obtain ⟨d3,t3⟩:=(eV (k:=4) (bt:=48) Try.underlying89 (by kernel_rfl) (by kernel_rfl) (by omega) QL) H enc w base sp held n _ _ f3 g3
  obtain ⟨e0,q0⟩:=t0
  have e1:(_:List Value) = _:=t1
  obtain ⟨u2,e2,q2⟩:=t2
  obtain ⟨u3,e3,q3⟩:=t3
  simp at e0 e1 e2 e3
  exact ⟨⟨d0,d1,d2,d3⟩,u2,u3,by simp [e0,e1,e2,e3],q0,q2,q3⟩
def bA.TV (w:World) (x:bA) (cs:List Value):Prop :=
 cs = [.int .i64 x.From,.int .i64 x.To,.int .i64 x.Days] ∧ (Lit.int .i64 x.From).wf = true ∧ (Lit.int .i64 x.To).wf = true ∧ (Lit.int .i64 x.Days).wf = true
def bA.wf (x:bA):Prop:=pE x.From ∧ pE x.To ∧ pE x.Days
theorem bA.TV_wf (w:World) (x:bA) (cs:List Value) (h:bA.TV w x cs):bA.wf x:=by
 obtain ⟨e,q0,q1,q2⟩:=h
 exact ⟨wf_i64 q0,wf_i64 q1,wf_i64 q2⟩
theorem bA.rds:LC bA.TV bA.cells 3:=fun w x cs h=>by
 obtain ⟨e,q0,q1,q2⟩:=h
 subst e
 exact ⟨fP.cons (.int _ _) rfl (fP.cons (.int _ _) rfl (fP.cons (.int _ _) rfl (fP.nil _))),rfl⟩
theorem LV:oP Try.prog 131 bA.TV:=fun H enc w base sp held fuel cs x h hL=>by
 obtain ⟨xs,n,hfuel,hxx,hlen,hxl,hf⟩:=DataW.trod_struct Try.underlying131 h
 subst hxx
 have hl:cs.length = 3:=hlen.trans (by kernel_rfl)
 match cs,hl with
 | [c0,c1,c2],_ =>
  obtain ⟨y0,hy0⟩ : ∃ y,xs[0]? = some y:=⟨xs[0]'(by rw [hxl]; simp),by simp⟩
  have f0:DataW.trod enc Try.prog w base sp held n 3 ((List.drop 0 [c0,c1,c2]).take (Try.prog.cellsOf 3)) = some y0:=(hf 0 _ rfl).trans hy0
  rw [show Try.prog.cellsOf 3 = 1 from by kernel_rfl] at f0
  have g0:=b6.part (P:=Try.prog) Try.underlying131 (i:=0) rfl hy0 hL
  obtain ⟨d0,t0⟩:=(bM Try.underlying3) H enc w base sp held n _ _ f0 g0
  obtain ⟨y1,hy1⟩ : ∃ y,xs[1]? = some y:=⟨xs[1]'(by rw [hxl]; simp),by simp⟩
  have f1:DataW.trod enc Try.prog w base sp held n 3 ((List.drop 1 [c0,c1,c2]).take (Try.prog.cellsOf 3)) = some y1:=(hf 1 _ rfl).trans hy1
  rw [show Try.prog.cellsOf 3 = 1 from by kernel_rfl] at f1
  have g1:=b6.part (P:=Try.prog) Try.underlying131 (i:=1) rfl hy1 hL
  obtain ⟨d1,t1⟩:=(bM Try.underlying3) H enc w base sp held n _ _ f1 g1
  obtain ⟨y2,hy2⟩ : ∃ y,xs[2]? = some y:=⟨xs[2]'(by rw [hxl]; simp),by simp⟩
  have f2:DataW.trod enc Try.prog w base sp held n 3 ((List.drop 2 [c0,c1,c2]).take (Try.prog.cellsOf 3)) = some y2:=(hf 2 _ rfl).trans hy2
  rw [show Try.prog.cellsOf 3 = 1 from by kernel_rfl] at f2
  have g2:=b6.part (P:=Try.prog) Try.underlying131 (i:=2) rfl hy2 hL
  obtain ⟨d2,t2⟩:=(bM Try.underlying3) H enc w base sp held n _ _ f2 g2
  obtain ⟨e0,q0⟩:=t0
  obtain ⟨e1,q1⟩:=t1
  obtain ⟨e2,q2⟩:=t2
  simp at e0 e1 e2
  exact ⟨⟨d0,d1,d2⟩,by simp [e0,e1,e2],q0,q1,q2⟩
def bV.TV (w:World) (x:bV) (cs:List Value):Prop :=
 cs = [.int .i64 x.From,.int .i64 x.To,.int .i64 x.Num,.int .i64 x.Den,.int .i64 x.Since] ∧ (Lit.int .i64 x.From).wf = true ∧ (Lit.int .i64 x.To).wf = true ∧ (Lit.int .i64 x.Num).wf = true ∧ (Lit.int .i64 x.Den).wf = true ∧ (Lit.int .i64 x.Since).wf = true
def bV.wf (x:bV):Prop:=pE x.From ∧ pE x.To ∧ pE x.Num ∧ pE x.Den ∧ pE x.Since
theorem bV.TV_wf (w:World) (x:bV) (cs:List Value) (h:bV.TV w x cs):bV.wf x:=by
 obtain ⟨e,q0,q1,q2,q3,q4⟩:=h
 exact ⟨wf_i64 q0,wf_i64 q1,wf_i64 q2,wf_i64 q3,wf_i64 q4⟩
theorem bV.rds:LC bV.TV bV.cells 5:=fun w x cs h=>by
 obtain ⟨e,q0,q1,q2,q3,q4⟩:=h
 subst e
 exact ⟨fP.cons (.int _ _) rfl (fP.cons (.int _ _) rfl (fP.cons (.int _ _) rfl (fP.cons (.int _ _) rfl (fP.cons (.int _ _) rfl (fP.nil _))))),rfl⟩
theorem QF:oP Try.prog 144 bV.TV:=fun H enc w base sp held fuel cs x h hL=>by
 obtain ⟨xs,n,hfuel,hxx,hlen,hxl,hf⟩:=DataW.trod_struct Try.underlying144 h
 subst hxx
 have hl:cs.length = 5:=hlen.trans (by kernel_rfl)
 match cs,hl with
 | [c0,c1,c2,c3,c4],_ =>
  obtain ⟨y0,hy0⟩ : ∃ y,xs[0]? = some y:=⟨xs[0]'(by rw [hxl]; simp),by simp⟩
  have f0:DataW.trod enc Try.prog w base sp held n 3 ((List.drop 0 [c0,c1,c2,c3,c4]).take (Try.prog.cellsOf 3)) = some y0:=(hf 0 _ rfl).trans hy0
  rw [show Try.prog.cellsOf 3 = 1 from by kernel_rfl] at f0
  have g0:=b6.part (P:=Try.prog) Try.underlying144 (i:=0) rfl hy0 hL
  obtain ⟨d0,t0⟩:=(bM Try.underlying3) H enc w base sp held n _ _ f0 g0
  obtain ⟨y1,hy1⟩ : ∃ y,xs[1]? = some y:=⟨xs[1]'(by rw [hxl]; simp),by simp⟩
  have f1:DataW.trod enc Try.prog w base sp held n 3 ((List.drop 1 [c0,c1,c2,c3,c4]).take (Try.prog.cellsOf 3)) = some y1:=(hf 1 _ rfl).trans hy1
  rw [show Try.prog.cellsOf 3 = 1 from by kernel_rfl] at f1
  have g1:=b6.part (P:=Try.prog) Try.underlying144 (i:=1) rfl hy1 hL
  obtain ⟨d1,t1⟩:=(bM Try.underlying3) H enc w base sp held n _ _ f1 g1
  obtain ⟨y2,hy2⟩ : ∃ y,xs[2]? = some y:=⟨xs[2]'(by rw [hxl]; simp),by simp⟩
  have f2:DataW.trod enc Try.prog w base sp held n 3 ((List.drop 2 [c0,c1,c2,c3,c4]).take (Try.prog.cellsOf 3)) = some y2:=(hf 2 _ rfl).trans hy2
  rw [show Try.prog.cellsOf 3 = 1 from by kernel_rfl] at f2
  have g2:=b6.part (P:=Try.prog) Try.underlying144 (i:=2) rfl hy2 hL
  obtain ⟨d2,t2⟩:=(bM Try.underlying3) H enc w base sp held n _ _ f2 g2
  obtain ⟨y3,hy3⟩ : ∃ y,xs[3]? = some y:=⟨xs[3]'(by rw [hxl]; simp),by simp⟩
  have f3:DataW.trod enc Try.prog w base sp held n 3 ((List.drop 3 [c0,c1,c2,c3,c4]).take (Try.prog.cellsOf 3)) = some y3:=(hf 3 _ rfl).trans hy3
  rw [show Try.prog.cellsOf 3 = 1 from by kernel_rfl] at f3
  have g3:=b6.part (P:=Try.prog) Try.underlying144 (i:=3) rfl hy3 hL
  obtain ⟨d3,t3⟩:=(bM Try.underlying3) H enc w base sp held n _ _ f3 g3
  obtain ⟨y4,hy4⟩ : ∃ y,xs[4]? = some y:=⟨xs[4]'(by rw [hxl]; simp),by simp⟩
  have f4:DataW.trod enc Try.prog w base sp held n 3 ((List.drop 4 [c0,c1,c2,c3,c4]).take (Try.prog.cellsOf 3)) = some y4:=(hf 4 _ rfl).trans hy4
  rw [show Try.prog.cellsOf 3 = 1 from by kernel_rfl] at f4
  have g4:=b6.part (P:=Try.prog) Try.underlying144 (i:=4) rfl hy4 hL
  obtain ⟨d4,t4⟩:=(bM Try.underlying3) H enc w base sp held n _ _ f4 g4
  obtain ⟨e0,q0⟩:=t0
  obtain ⟨e1,q1⟩:=t1
  obtain ⟨e2,q2⟩:=t2
  obtain ⟨e3,q3⟩:=t3
  obtain ⟨e4,q4⟩:=t4
  simp at e0 e1 e2 e3 e4
  exact ⟨⟨d0,d1,d2,d3,d4⟩,by simp [e0,e1,e2,e3,e4],q0,q1,q2,q3,q4⟩
def bZ.TV (w:World) (x:bZ) (cs:List Value):Prop :=
 cs = [.int .i64 x.Order,.int .i64 x.From,.int .i64 x.To] ∧ (Lit.int .i64 x.Order).wf = true ∧ (Lit.int .i64 x.From).wf = true ∧ (Lit.int .i64 x.To).wf = true
def bZ.wf (x:bZ):Prop:=pE x.Order ∧ pE x.From ∧ pE x.To
theorem bZ.TV_wf (w:World) (x:bZ) (cs:List Value) (h:bZ.TV w x cs):bZ.wf x:=by
 obtain ⟨e,q0,q1,q2⟩:=h
 exact ⟨wf_i64 q0,wf_i64 q1,wf_i64 q2⟩
theorem bZ.rds:LC bZ.TV bZ.cells 3:=fun w x cs h=>by
 obtain ⟨e,q0,q1,q2⟩:=h
 subst e
 exact ⟨fP.cons (.int _ _) rfl (fP.cons (.int _ _) rfl (fP.cons (.int _ _) rfl (fP.nil _))),rfl⟩
theorem RT:oP Try.prog 146 bZ.TV:=fun H enc w base sp held fuel cs x h hL=>by
 obtain ⟨xs,n,hfuel,hxx,hlen,hxl,hf⟩:=DataW.trod_struct Try.underlying146 h
 subst hxx
 have hl:cs.length = 3:=hlen.trans (by kernel_rfl)
 match cs,hl with
 | [c0,c1,c2],_ =>
  obtain ⟨y0,hy0⟩ : ∃ y,xs[0]? = some y:=⟨xs[0]'(by rw [hxl]; simp),by simp⟩
  have f0:DataW.trod enc Try.prog w base sp held n 3 ((List.drop 0 [c0,c1,c2]).take (Try.prog.cellsOf 3)) = some y0:=(hf 0 _ rfl).trans hy0
  rw [show Try.prog.cellsOf 3 = 1 from by kernel_rfl] at f0
  have g0:=b6.part (P:=Try.prog) Try.underlying146 (i:=0) rfl hy0 hL
  obtain ⟨d0,t0⟩:=(bM Try.underlying3) H enc w base sp held n _ _ f0 g0
  obtain ⟨y1,hy1⟩ : ∃ y,xs[1]? = some y:=⟨xs[1]'(by rw [hxl]; simp),by simp⟩
  have f1:DataW.trod enc Try.prog w base sp held n 3 ((List.drop 1 [c0,c1,c2]).take (Try.prog.cellsOf 3)) = some y1:=(hf 1 _ rfl).trans hy1
  rw [show Try.prog.cellsOf 3 = 1 from by kernel_rfl] at f1
  have g1:=b6.part (P:=Try.prog) Try.underlying146 (i:=1) rfl hy1 hL
  obtain ⟨d1,t1⟩:=(bM Try.underlying3) H enc w base sp held n _ _ f1 g1
  obtain ⟨y2,hy2⟩ : ∃ y,xs[2]? = some y:=⟨xs[2]'(by rw [hxl]; simp),by simp⟩
  have f2:DataW.trod enc Try.prog w base sp held n 3 ((List.drop 2 [c0,c1,c2]).take (Try.prog.cellsOf 3)) = some y2:=(hf 2 _ rfl).trans hy2
  rw [show Try.prog.cellsOf 3 = 1 from by kernel_rfl] at f2
  have g2:=b6.part (P:=Try.prog) Try.underlying146 (i:=2) rfl hy2 hL
  obtain ⟨d2,t2⟩:=(bM Try.underlying3) H enc w base sp held n _ _ f2 g2
  obtain ⟨e0,q0⟩:=t0
  obtain ⟨e1,q1⟩:=t1
  obtain ⟨e2,q2⟩:=t2
  simp at e0 e1 e2
  exact ⟨⟨d0,d1,d2⟩,by simp [e0,e1,e2],q0,q1,q2⟩
def aA.TV (w:World) (x:aA) (cs:List Value):Prop :=
 ∃ v0 v1 v2 v3 v4 v5 v6 v7:Value,cs = [v0,v1,v2,v3,v4,v5,v6,v7] ∧ Sq w aC7 1 16 v0 x.Currencies ∧ Sq w bJ.TV 6 104 v1 x.Cities ∧ Sq w bN.TV 1 8 v2 x.Groups ∧ Sq w bU.TV 3 32 v3 x.Firms ∧ Sq w bC.TV 4 72 v4 x.Orders ∧ Sq w bA.TV 3 24 v5 x.Usances ∧ Sq w bV.TV 5 40 v6 x.Rates ∧ Sq w bZ.TV 3 24 v7 x.Halts
def aA.wf (x:aA):Prop:=Wl Ws x.Currencies ∧ Wl bJ.wf x.Cities ∧ Wl bN.wf x.Groups ∧ Wl bU.wf x.Firms ∧ Wl bC.wf x.Orders ∧ Wl bA.wf x.Usances ∧ Wl bV.wf x.Rates ∧ Wl bZ.wf x.Halts
theorem aA.TV_wf (w:World) (x:aA) (cs:List Value) (h:aA.TV w x cs):aA.wf x:=by
 obtain ⟨v0,v1,v2,v3,v4,v5,v6,v7,e,q0,q1,q2,q3,q4,q5,q6,q7⟩:=h
 exact ⟨q0.wl (fun w x cs h=>W2 h.2),q1.wl bJ.TV_wf,q2.wl bN.TV_wf,q3.wl bU.TV_wf,q4.wl bC.TV_wf,q5.wl bA.TV_wf,q6.wl bV.TV_wf,q7.wl bZ.TV_wf⟩
theorem aA.rds:LC aA.TV aA.cells 8:=fun w x cs h=>by
 obtain ⟨v0,v1,v2,v3,v4,v5,v6,v7,e,q0,q1,q2,q3,q4,q5,q6,q7⟩:=h
 subst e
 exact ⟨fP.cons (q0.reads aFo) rfl (fP.cons (q1.reads bJ.rds) rfl (fP.cons (q2.reads bN.rds) rfl (fP.cons (q3.reads bU.rds) rfl (fP.cons (q4.reads bC.rds) rfl (fP.cons (q5.reads bA.rds) rfl (fP.cons (q6.reads bV.rds) rfl (fP.cons (q7.reads bZ.rds) rfl (fP.nil _)))))))),rfl⟩
theorem FM:oP Try.prog 31 aA.TV:=fun H enc w base sp held fuel cs x h hL=>by
 obtain ⟨xs,n,hfuel,hxx,hlen,hxl,hf⟩:=DataW.trod_struct Try.underlying31 h
 subst hxx
 have hl:cs.length = 8:=hlen.trans (by kernel_rfl)
 match cs,hl with
 | [c0,c1,c2,c3,c4,c5,c6,c7],_ =>
  obtain ⟨y0,hy0⟩ : ∃ y,xs[0]? = some y:=⟨xs[0]'(by rw [hxl]; simp),by simp⟩
  have f0:DataW.trod enc Try.prog w base sp held n 22 ((List.drop 0 [c0,c1,c2,c3,c4,c5,c6,c7]).take (Try.prog.cellsOf 22)) = some y0:=(hf 0 _ rfl).trans hy0
  rw [show Try.prog.cellsOf 22 = 1 from by kernel_rfl] at f0
  have g0:=b6.part (P:=Try.prog) Try.underlying31 (i:=0) rfl hy0 hL
  obtain ⟨d0,t0⟩:=(eV (k:=1) (bt:=16) Try.underlying22 (by kernel_rfl) (by kernel_rfl) (by omega) (CW Try.underlying9)) H enc w base sp held n _ _ f0 g0
  obtain ⟨y1,hy1⟩ : ∃ y,xs[1]? = some y:=⟨xs[1]'(by rw [hxl]; simp),by simp⟩
  have f1:DataW.trod enc Try.prog w base sp held n 23 ((List.drop 1 [c0,c1,c2,c3,c4,c5,c6,c7]).take (Try.prog.cellsOf 23)) = some y1:=(hf 1 _ rfl).trans hy1
  rw [show Try.prog.cellsOf 23 = 1 from by kernel_rfl] at f1
  have g1:=b6.part (P:=Try.prog) Try.underlying31 (i:=1) rfl hy1 hL
  obtain ⟨d1,t1⟩:=(eV (k:=6) (bt:=104) Try.underlying23 (by kernel_rfl) (by kernel_rfl) (by omega) Q5) H enc w base sp held n _ _ f1 g1
  obtain ⟨y2,hy2⟩ : ∃ y,xs[2]? = some y:=⟨xs[2]'(by rw [hxl]; simp),by simp⟩
  have f2:DataW.trod enc Try.prog w base sp held n 24 ((List.drop 2 [c0,c1,c2,c3,c4,c5,c6,c7]).take (Try.prog.cellsOf 24)) = some y2:=(hf 2 _ rfl).trans hy2
  rw [show Try.prog.cellsOf 24 = 1 from by kernel_rfl] at f2
  have g2:=b6.part (P:=Try.prog) Try.underlying31 (i:=2) rfl hy2 hL
  obtain ⟨d2,t2⟩:=(eV (k:=1) (bt:=8) Try.underlying24 (by kernel_rfl) (by kernel_rfl) (by omega) OO) H enc w base sp held n _ _ f2 g2
  obtain ⟨y3,hy3⟩ : ∃ y,xs[3]? = some y:=⟨xs[3]'(by rw [hxl]; simp),by simp⟩
  have f3:DataW.trod enc Try.prog w base sp held n 25 ((List.drop 3 [c0,c1,c2,c3,c4,c5,c6,c7]).take (Try.prog.cellsOf 25)) = some y3:=(hf 3 _ rfl).trans hy3
  rw [show Try.prog.cellsOf 25 = 1 from by kernel_rfl] at f3
  have g3:=b6.part (P:=Try.prog) Try.underlying31 (i:=3) rfl hy3 hL
  obtain ⟨d3,t3⟩:=(eV (k:=3) (bt:=32) Try.underlying25 (by kernel_rfl) (by kernel_rfl) (by omega) Q6) H enc w base sp held n _ _ f3 g3
  obtain ⟨y4,hy4⟩ : ∃ y,xs[4]? = some y:=⟨xs[4]'(by rw [hxl]; simp),by simp⟩
  have f4:DataW.trod enc Try.prog w base sp held n 26 ((List.drop 4 [c0,c1,c2,c3,c4,c5,c6,c7]).take (Try.prog.cellsOf 26)) = some y4:=(hf 4 _ rfl).trans hy4
  rw [show Try.prog.cellsOf 26 = 1 from by kernel_rfl] at f4
  have g4:=b6.part (P:=Try.prog) Try.underlying31 (i:=4) rfl hy4 hL
  obtain ⟨d4,t4⟩:=(eV (k:=4) (bt:=72) Try.underlying26 (by kernel_rfl) (by kernel_rfl) (by omega) NH) H enc w base sp held n _ _ f4 g4
  obtain ⟨y5,hy5⟩ : ∃ y,xs[5]? = some y:=⟨xs[5]'(by rw [hxl]; simp),by simp⟩
  have f5:DataW.trod enc Try.prog w base sp held n 27 ((List.drop 5 [c0,c1,c2,c3,c4,c5,c6,c7]).take (Try.prog.cellsOf 27)) = some y5:=(hf 5 _ rfl).trans hy5
  rw [show Try.prog.cellsOf 27 = 1 from by kernel_rfl] at f5
  have g5:=b6.part (P:=Try.prog) Try.underlying31 (i:=5) rfl hy5 hL
  obtain ⟨d5,t5⟩:=(eV (k:=3) (bt:=24) Try.underlying27 (by kernel_rfl) (by kernel_rfl) (by omega) LV) H enc w base sp held n _ _ f5 g5
  obtain ⟨y6,hy6⟩ : ∃ y,xs[6]? = some y:=⟨xs[6]'(by rw [hxl]; simp),by simp⟩
  have f6:DataW.trod enc Try.prog w base sp held n 28 ((List.drop 6 [c0,c1,c2,c3,c4,c5,c6,c7]).take (Try.prog.cellsOf 28)) = some y6:=(hf 6 _ rfl).trans hy6
  rw [show Try.prog.cellsOf 28 = 1 from by kernel_rfl] at f6
  have g6:=b6.part (P:=Try.prog) Try.underlying31 (i:=6) rfl hy6 hL
  obtain ⟨d6,t6⟩:=(eV (k:=5) (bt:=40) Try.underlying28 (by kernel_rfl) (by kernel_rfl) (by omega) QF) H enc w base sp held n _ _ f6 g6
  obtain ⟨y7,hy7⟩ : ∃ y,xs[7]? = some y:=⟨xs[7]'(by rw [hxl]; simp),by simp⟩
  have f7:DataW.trod enc Try.prog w base sp held n 29 ((List.drop 7 [c0,c1,c2,c3,c4,c5,c6,c7]).take (Try.prog.cellsOf 29)) = some y7:=(hf 7 _ rfl).trans hy7
  rw [show Try.prog.cellsOf 29 = 1 from by kernel_rfl] at f7
  have g7:=b6.part (P:=Try.prog) Try.underlying31 (i:=7) rfl hy7 hL
  obtain ⟨d7,t7⟩:=(eV (k:=3) (bt:=24) Try.underlying29 (by kernel_rfl) (by kernel_rfl) (by omega) RT) H enc w base sp held n _ _ f7 g7
  obtain ⟨u0,e0,q0⟩:=t0
  obtain ⟨u1,e1,q1⟩:=t1
  obtain ⟨u2,e2,q2⟩:=t2
  obtain ⟨u3,e3,q3⟩:=t3
  obtain ⟨u4,e4,q4⟩:=t4
  obtain ⟨u5,e5,q5⟩:=t5
  obtain ⟨u6,e6,q6⟩:=t6
  obtain ⟨u7,e7,q7⟩:=t7
  simp at e0 e1 e2 e3 e4 e5 e6 e7
  exact ⟨⟨d0,d1,d2,d3,d4,d5,d6,d7⟩,u0,u1,u2,u3,u4,u5,u6,u7,by simp [e0,e1,e2,e3,e4,e5,e6,e7],q0,q1,q2,q3,q4,q5,q6,q7⟩
def bS.TV (w:World) (x:bS) (cs:List Value):Prop :=
 cs = [.int .i64 x.Kind,.int .i64 x.N,.int .i64 x.Unit] ∧ (Lit.int .i64 x.Kind).wf = true ∧ (Lit.int .i64 x.N).wf = true ∧ (Lit.int .i64 x.Unit).wf = true
def bS.wf (x:bS):Prop:=pE x.Kind ∧ pE x.N ∧ pE x.Unit
theorem bS.TV_wf (w:World) (x:bS) (cs:List Value) (h:bS.TV w x cs):bS.wf x:=by
 obtain ⟨e,q0,q1,q2⟩:=h
 exact ⟨wf_i64 q0,wf_i64 q1,wf_i64 q2⟩
theorem bS.rds:LC bS.TV bS.cells 3:=fun w x cs h=>by
 obtain ⟨e,q0,q1,q2⟩:=h
 subst e
 exact ⟨fP.cons (.int _ _) rfl (fP.cons (.int _ _) rfl (fP.cons (.int _ _) rfl (fP.nil _))),rfl⟩
theorem OU:oP Try.prog 33 bS.TV:=fun H enc w base sp held fuel cs x h hL=>by
 obtain ⟨xs,n,hfuel,hxx,hlen,hxl,hf⟩:=DataW.trod_struct Try.underlying33 h
 subst hxx
 have hl:cs.length = 3:=hlen.trans (by kernel_rfl)
 match cs,hl with
 | [c0,c1,c2],_ =>
  obtain ⟨y0,hy0⟩ : ∃ y,xs[0]? = some y:=⟨xs[0]'(by rw [hxl]; simp),by simp⟩
  have f0:DataW.trod enc Try.prog w base sp held n 3 ((List.drop 0 [c0,c1,c2]).take (Try.prog.cellsOf 3)) = some y0:=(hf 0 _ rfl).trans hy0
  rw [show Try.prog.cellsOf 3 = 1 from by kernel_rfl] at f0
  have g0:=b6.part (P:=Try.prog) Try.underlying33 (i:=0) rfl hy0 hL
  obtain ⟨d0,t0⟩:=(bM Try.underlying3) H enc w base sp held n _ _ f0 g0
  obtain ⟨y1,hy1⟩ : ∃ y,xs[1]? = some y:=⟨xs[1]'(by rw [hxl]; simp),by simp⟩
  have f1:DataW.trod enc Try.prog w base sp held n 3 ((List.drop 1 [c0,c1,c2]).take (Try.prog.cellsOf 3)) = some y1:=(hf 1 _ rfl).trans hy1
  rw [show Try.prog.cellsOf 3 = 1 from by kernel_rfl] at f1
  have g1:=b6.part (P:=Try.prog) Try.underlying33 (i:=1) rfl hy1 hL
  obtain ⟨d1,t1⟩:=(bM Try.underlying3) H enc w base sp held n _ _ f1 g1
  obtain ⟨y2,hy2⟩ : ∃ y,xs[2]? = some y:=⟨xs[2]'(by rw [hxl]; simp),by simp⟩
  have f2:DataW.trod enc Try.prog w base sp held n 3 ((List.drop 2 [c0,c1,c2]).take (Try.prog.cellsOf 3)) = some y2:=(hf 2 _ rfl).trans hy2
  rw [show Try.prog.cellsOf 3 = 1 from by kernel_rfl] at f2
  have g2:=b6.part (P:=Try.prog) Try.underlying33 (i:=2) rfl hy2 hL
  obtain ⟨d2,t2⟩:=(bM Try.underlying3) H enc w base sp held n _ _ f2 g2
  obtain ⟨e0,q0⟩:=t0
  obtain ⟨e1,q1⟩:=t1
  obtain ⟨e2,q2⟩:=t2
  simp at e0 e1 e2
  exact ⟨⟨d0,d1,d2⟩,by simp [e0,e1,e2],q0,q1,q2⟩
def bD.TV (w:World) (x:bD) (cs:List Value):Prop :=
 cs = [.int .i64 x.Drawer,.int .i64 x.Drawee,.int .i64 x.Payee,.int .i64 x.Sum,.int .i64 x.Currency,.int .i64 x.Tenor.Kind,.int .i64 x.Tenor.N,.int .i64 x.Tenor.Unit,.int .i64 x.Day,.int .i64 x.City,.int .i64 x.Pay,.int .i64 x.Need,.int .i64 x.Rate,.int .i64 x.Flags,.int .i64 x.Parts] ∧ (Lit.int .i64 x.Drawer).wf = true ∧ (Lit.int .i64 x.Drawee).wf = true ∧ (Lit.int .i64 x.Payee).wf = true ∧ (Lit.int .i64 x.Sum).wf = true ∧ (Lit.int .i64 x.Currency).wf = true ∧ (Lit.int .i64 x.Tenor.Kind).wf = true ∧ (Lit.int .i64 x.Tenor.N).wf = true ∧ (Lit.int .i64 x.Tenor.Unit).wf = true ∧ (Lit.int .i64 x.Day).wf = true ∧ (Lit.int .i64 x.City).wf = true ∧ (Lit.int .i64 x.Pay).wf = true ∧ (Lit.int .i64 x.Need).wf = true ∧ (Lit.int .i64 x.Rate).wf = true ∧ (Lit.int .i64 x.Flags).wf = true ∧ (Lit.int .i64 x.Parts).wf = true
def bD.wf (x:bD):Prop:=pE x.Drawer ∧ pE x.Drawee ∧ pE x.Payee ∧ pE x.Sum ∧ pE x.Currency ∧ bS.wf x.Tenor ∧ pE x.Day ∧ pE x.City ∧ pE x.Pay ∧ pE x.Need ∧ pE x.Rate ∧ pE x.Flags ∧ pE x.Parts
theorem bD.TV_wf (w:World) (x:bD) (cs:List Value) (h:bD.TV w x cs):bD.wf x:=by
 obtain ⟨e,q0,q1,q2,q3,q4,q5,q6,q7,q8,q9,q10,q11,q12,q13,q14⟩:=h
 exact ⟨wf_i64 q0,wf_i64 q1,wf_i64 q2,wf_i64 q3,wf_i64 q4,⟨wf_i64 q5,wf_i64 q6,wf_i64 q7⟩,wf_i64 q8,wf_i64 q9,wf_i64 q10,wf_i64 q11,wf_i64 q12,wf_i64 q13,wf_i64 q14⟩
theorem bD.rds:LC bD.TV bD.cells 15:=fun w x cs h=>by
 obtain ⟨e,q0,q1,q2,q3,q4,q5,q6,q7,q8,q9,q10,q11,q12,q13,q14⟩:=h
 subst e
 exact ⟨fP.cons (.int _ _) rfl (fP.cons (.int _ _) rfl (fP.cons (.int _ _) rfl (fP.cons (.int _ _) rfl (fP.cons (.int _ _) rfl (fP.cons (.int _ _) rfl (fP.cons (.int _ _) rfl (fP.cons (.int _ _) rfl (fP.cons (.int _ _) rfl (fP.cons (.int _ _) rfl (fP.cons (.int _ _) rfl (fP.cons (.int _ _) rfl (fP.cons (.int _ _) rfl (fP.cons (.int _ _) rfl (fP.cons (.int _ _) rfl (fP.nil _))))))))))))))),rfl⟩
theorem QP:oP Try.prog 35 bD.TV:=fun H enc w base sp held fuel cs x h hL=>by
 obtain ⟨xs,n,hfuel,hxx,hlen,hxl,hf⟩:=DataW.trod_struct Try.underlying35 h
 subst hxx
 have hl:cs.length = 15:=hlen.trans (by kernel_rfl)
 match cs,hl with
 | [c0,c1,c2,c3,c4,c5,c6,c7,c8,c9,c10,c11,c12,c13,c14],_ =>
  obtain ⟨y0,hy0⟩ : ∃ y,xs[0]? = some y:=⟨xs[0]'(by rw [hxl]; simp),by simp⟩
  have f0:DataW.trod enc Try.prog w base sp held n 3 ((List.drop 0 [c0,c1,c2,c3,c4,c5,c6,c7,c8,c9,c10,c11,c12,c13,c14]).take (Try.prog.cellsOf 3)) = some y0:=(hf 0 _ rfl).trans hy0
  rw [show Try.prog.cellsOf 3 = 1 from by kernel_rfl] at f0
  have g0:=b6.part (P:=Try.prog) Try.underlying35 (i:=0) rfl hy0 hL
  obtain ⟨d0,t0⟩:=(bM Try.underlying3) H enc w base sp held n _ _ f0 g0
  obtain ⟨y1,hy1⟩ : ∃ y,xs[1]? = some y:=⟨xs[1]'(by rw [hxl]; simp),by simp⟩
  have f1:DataW.trod enc Try.prog w base sp held n 3 ((List.drop 1 [c0,c1,c2,c3,c4,c5,c6,c7,c8,c9,c10,c11,c12,c13,c14]).take (Try.prog.cellsOf 3)) = some y1:=(hf 1 _ rfl).trans hy1
  rw [show Try.prog.cellsOf 3 = 1 from by kernel_rfl] at f1
  have g1:=b6.part (P:=Try.prog) Try.underlying35 (i:=1) rfl hy1 hL
  obtain ⟨d1,t1⟩:=(bM Try.underlying3) H enc w base sp held n _ _ f1 g1
  obtain ⟨y2,hy2⟩ : ∃ y,xs[2]? = some y:=⟨xs[2]'(by rw [hxl]; simp),by simp⟩
  have f2:DataW.trod enc Try.prog w base sp held n 3 ((List.drop 2 [c0,c1,c2,c3,c4,c5,c6,c7,c8,c9,c10,c11,c12,c13,c14]).take (Try.prog.cellsOf 3)) = some y2:=(hf 2 _ rfl).trans hy2
  rw [show Try.prog.cellsOf 3 = 1 from by kernel_rfl] at f2
  have g2:=b6.part (P:=Try.prog) Try.underlying35 (i:=2) rfl hy2 hL
  obtain ⟨d2,t2⟩:=(bM Try.underlying3) H enc w base sp held n _ _ f2 g2
  obtain ⟨y3,hy3⟩ : ∃ y,xs[3]? = some y:=⟨xs[3]'(by rw [hxl]; simp),by simp⟩
  have f3:DataW.trod enc Try.prog w base sp held n 3 ((List.drop 3 [c0,c1,c2,c3,c4,c5,c6,c7,c8,c9,c10,c11,c12,c13,c14]).take (Try.prog.cellsOf 3)) = some y3:=(hf 3 _ rfl).trans hy3
  rw [show Try.prog.cellsOf 3 = 1 from by kernel_rfl] at f3
  have g3:=b6.part (P:=Try.prog) Try.underlying35 (i:=3) rfl hy3 hL
  obtain ⟨d3,t3⟩:=(bM Try.underlying3) H enc w base sp held n _ _ f3 g3
  obtain ⟨y4,hy4⟩ : ∃ y,xs[4]? = some y:=⟨xs[4]'(by rw [hxl]; simp),by simp⟩
  have f4:DataW.trod enc Try.prog w base sp held n 3 ((List.drop 4 [c0,c1,c2,c3,c4,c5,c6,c7,c8,c9,c10,c11,c12,c13,c14]).take (Try.prog.cellsOf 3)) = some y4:=(hf 4 _ rfl).trans hy4
  rw [show Try.prog.cellsOf 3 = 1 from by kernel_rfl] at f4
  have g4:=b6.part (P:=Try.prog) Try.underlying35 (i:=4) rfl hy4 hL
  obtain ⟨d4,t4⟩:=(bM Try.underlying3) H enc w base sp held n _ _ f4 g4
  obtain ⟨y5,hy5⟩ : ∃ y,xs[5]? = some y:=⟨xs[5]'(by rw [hxl]; simp),by simp⟩
  have f5:DataW.trod enc Try.prog w base sp held n 33 ((List.drop 5 [c0,c1,c2,c3,c4,c5,c6,c7,c8,c9,c10,c11,c12,c13,c14]).take (Try.prog.cellsOf 33)) = some y5:=(hf 5 _ rfl).trans hy5
  rw [show Try.prog.cellsOf 33 = 3 from by kernel_rfl] at f5
  have g5:=b6.part (P:=Try.prog) Try.underlying35 (i:=5) rfl hy5 hL
  obtain ⟨d5,t5⟩:=OU H enc w base sp held n _ _ f5 g5
  obtain ⟨y6,hy6⟩ : ∃ y,xs[6]? = some y:=⟨xs[6]'(by rw [hxl]; simp),by simp⟩
  have f6:DataW.trod enc Try.prog w base sp held n 3 ((List.drop 8 [c0,c1,c2,c3,c4,c5,c6,c7,c8,c9,c10,c11,c12,c13,c14]).take (Try.prog.cellsOf 3)) = some y6:=(hf 6 _ rfl).trans hy6
  rw [show Try.prog.cellsOf 3 = 1 from by kernel_rfl] at f6
  have g6:=b6.part (P:=Try.prog) Try.underlying35 (i:=6) rfl hy6 hL
  obtain ⟨d6,t6⟩:=(bM Try.underlying3) H enc w base sp held n _ _ f6 g6
  obtain ⟨y7,hy7⟩ : ∃ y,xs[7]? = some y:=⟨xs[7]'(by rw [hxl]; simp),by simp⟩
  have f7:DataW.trod enc Try.prog w base sp held n 3 ((List.drop 9 [c0,c1,c2,c3,c4,c5,c6,c7,c8,c9,c10,c11,c12,c13,c14]).take (Try.prog.cellsOf 3)) = some y7:=(hf 7 _ rfl).trans hy7
  rw [show Try.prog.cellsOf 3 = 1 from by kernel_rfl] at f7
  have g7:=b6.part (P:=Try.prog) Try.underlying35 (i:=7) rfl hy7 hL
  obtain ⟨d7,t7⟩:=(bM Try.underlying3) H enc w base sp held n _ _ f7 g7
  obtain ⟨y8,hy8⟩ : ∃ y,xs[8]? = some y:=⟨xs[8]'(by rw [hxl]; simp),by simp⟩
  have f8:DataW.trod enc Try.prog w base sp held n 3 ((List.drop 10 [c0,c1,c2,c3,c4,c5,c6,c7,c8,c9,c10,c11,c12,c13,c14]).take (Try.prog.cellsOf 3)) = some y8:=(hf 8 _ rfl).trans hy8
  rw [show Try.prog.cellsOf 3 = 1 from by kernel_rfl] at f8
  have g8:=b6.part (P:=Try.prog) Try.underlying35 (i:=8) rfl hy8 hL
  obtain ⟨d8,t8⟩:=(bM Try.underlying3) H enc w base sp held n _ _ f8 g8
  obtain ⟨y9,hy9⟩ : ∃ y,xs[9]? = some y:=⟨xs[9]'(by rw [hxl]; simp),by simp⟩
  have f9:DataW.trod enc Try.prog w base sp held n 3 ((List.drop 11 [c0,c1,c2,c3,c4,c5,c6,c7,c8,c9,c10,c11,c12,c13,c14]).take (Try.prog.cellsOf 3)) = some y9:=(hf 9 _ rfl).trans hy9
  rw [show Try.prog.cellsOf 3 = 1 from by kernel_rfl] at f9
  have g9:=b6.part (P:=Try.prog) Try.underlying35 (i:=9) rfl hy9 hL
  obtain ⟨d9,t9⟩:=(bM Try.underlying3) H enc w base sp held n _ _ f9 g9
  obtain ⟨y10,hy10⟩ : ∃ y,xs[10]? = some y:=⟨xs[10]'(by rw [hxl]; simp),by simp⟩
  have f10:DataW.trod enc Try.prog w base sp held n 3 ((List.drop 12 [c0,c1,c2,c3,c4,c5,c6,c7,c8,c9,c10,c11,c12,c13,c14]).take (Try.prog.cellsOf 3)) = some y10:=(hf 10 _ rfl).trans hy10
  rw [show Try.prog.cellsOf 3 = 1 from by kernel_rfl] at f10
  have g10:=b6.part (P:=Try.prog) Try.underlying35 (i:=10) rfl hy10 hL
  obtain ⟨d10,t10⟩:=(bM Try.underlying3) H enc w base sp held n _ _ f10 g10
  obtain ⟨y11,hy11⟩ : ∃ y,xs[11]? = some y:=⟨xs[11]'(by rw [hxl]; simp),by simp⟩
  have f11:DataW.trod enc Try.prog w base sp held n 3 ((List.drop 13 [c0,c1,c2,c3,c4,c5,c6,c7,c8,c9,c10,c11,c12,c13,c14]).take (Try.prog.cellsOf 3)) = some y11:=(hf 11 _ rfl).trans hy11
  rw [show Try.prog.cellsOf 3 = 1 from by kernel_rfl] at f11
  have g11:=b6.part (P:=Try.prog) Try.underlying35 (i:=11) rfl hy11 hL
  obtain ⟨d11,t11⟩:=(bM Try.underlying3) H enc w base sp held n _ _ f11 g11
  obtain ⟨y12,hy12⟩ : ∃ y,xs[12]? = some y:=⟨xs[12]'(by rw [hxl]; simp),by simp⟩
  have f12:DataW.trod enc Try.prog w base sp held n 3 ((List.drop 14 [c0,c1,c2,c3,c4,c5,c6,c7,c8,c9,c10,c11,c12,c13,c14]).take (Try.prog.cellsOf 3)) = some y12:=(hf 12 _ rfl).trans hy12
  rw [show Try.prog.cellsOf 3 = 1 from by kernel_rfl] at f12
  have g12:=b6.part (P:=Try.prog) Try.underlying35 (i:=12) rfl hy12 hL
  obtain ⟨d12,t12⟩:=(bM Try.underlying3) H enc w base sp held n _ _ f12 g12
  obtain ⟨e0,q0⟩:=t0
  obtain ⟨e1,q1⟩:=t1
  obtain ⟨e2,q2⟩:=t2
  obtain ⟨e3,q3⟩:=t3
  obtain ⟨e4,q4⟩:=t4
  obtain ⟨e5,q5_0,q5_1,q5_2⟩:=t5
  obtain ⟨e6,q6⟩:=t6
  obtain ⟨e7,q7⟩:=t7
  obtain ⟨e8,q8⟩:=t8
  obtain ⟨e9,q9⟩:=t9
  obtain ⟨e10,q10⟩:=t10
  obtain ⟨e11,q11⟩:=t11
  obtain ⟨e12,q12⟩:=t12
  simp at e0 e1 e2 e3 e4 e5 e6 e7 e8 e9 e10 e11 e12
  exact ⟨⟨d0,d1,d2,d3,d4,d5,d6,d7,d8,d9,d10,d11,d12⟩,by simp [e0,e1,e2,e3,e4,e5,e6,e7,e8,e9,e10,e11,e12],q0,q1,q2,q3,q4,q5_0,q5_1,q5_2,q6,q7,q8,q9,q10,q11,q12⟩
def aO.TV (w:World) (x:aO) (cs:List Value):Prop :=
 cs = [.int .i64 x.Kind,.int .i64 x.Part,.int .i64 x.Who,.int .i64 x.For,.int .i64 x.To,.int .i64 x.Sum,.int .i64 x.Day,.int .i64 x.City,.int .i64 x.Flags] ∧ (Lit.int .i64 x.Kind).wf = true ∧ (Lit.int .i64 x.Part).wf = true ∧ (Lit.int .i64 x.Who).wf = true ∧ (Lit.int .i64 x.For).wf = true ∧ (Lit.int .i64 x.To).wf = true ∧ (Lit.int .i64 x.Sum).wf = true ∧ (Lit.int .i64 x.Day).wf = true ∧ (Lit.int .i64 x.City).wf = true ∧ (Lit.int .i64 x.Flags).wf = true
def aO.wf (x:aO):Prop:=pE x.Kind ∧ pE x.Part ∧ pE x.Who ∧ pE x.For ∧ pE x.To ∧ pE x.Sum ∧ pE x.Day ∧ pE x.City ∧ pE x.Flags
theorem aO.TV_wf (w:World) (x:aO) (cs:List Value) (h:aO.TV w x cs):aO.wf x:=by
 obtain ⟨e,q0,q1,q2,q3,q4,q5,q6,q7,q8⟩:=h
 exact ⟨wf_i64 q0,wf_i64 q1,wf_i64 q2,wf_i64 q3,wf_i64 q4,wf_i64 q5,wf_i64 q6,wf_i64 q7,wf_i64 q8⟩
theorem aO.rds:LC aO.TV aO.cells 9:=fun w x cs h=>by
 obtain ⟨e,q0,q1,q2,q3,q4,q5,q6,q7,q8⟩:=h
 subst e
 exact ⟨fP.cons (.int _ _) rfl (fP.cons (.int _ _) rfl (fP.cons (.int _ _) rfl (fP.cons (.int _ _) rfl (fP.cons (.int _ _) rfl (fP.cons (.int _ _) rfl (fP.cons (.int _ _) rfl (fP.cons (.int _ _) rfl (fP.cons (.int _ _) rfl (fP.nil _))))))))),rfl⟩
theorem RJ:oP Try.prog 66 aO.TV:=fun H enc w base sp held fuel cs x h hL=>by
 obtain ⟨xs,n,hfuel,hxx,hlen,hxl,hf⟩:=DataW.trod_struct Try.underlying66 h
 subst hxx
 have hl:cs.length = 9:=hlen.trans (by kernel_rfl)
 match cs,hl with
 | [c0,c1,c2,c3,c4,c5,c6,c7,c8],_ =>
  obtain ⟨y0,hy0⟩ : ∃ y,xs[0]? = some y:=⟨xs[0]'(by rw [hxl]; simp),by simp⟩
  have f0:DataW.trod enc Try.prog w base sp held n 3 ((List.drop 0 [c0,c1,c2,c3,c4,c5,c6,c7,c8]).take (Try.prog.cellsOf 3)) = some y0:=(hf 0 _ rfl).trans hy0
  rw [show Try.prog.cellsOf 3 = 1 from by kernel_rfl] at f0
  have g0:=b6.part (P:=Try.prog) Try.underlying66 (i:=0) rfl hy0 hL
  obtain ⟨d0,t0⟩:=(bM Try.underlying3) H enc w base sp held n _ _ f0 g0
  obtain ⟨y1,hy1⟩ : ∃ y,xs[1]? = some y:=⟨xs[1]'(by rw [hxl]; simp),by simp⟩
  have f1:DataW.trod enc Try.prog w base sp held n 3 ((List.drop 1 [c0,c1,c2,c3,c4,c5,c6,c7,c8]).take (Try.prog.cellsOf 3)) = some y1:=(hf 1 _ rfl).trans hy1
  rw [show Try.prog.cellsOf 3 = 1 from by kernel_rfl] at f1
  have g1:=b6.part (P:=Try.prog) Try.underlying66 (i:=1) rfl hy1 hL
  obtain ⟨d1,t1⟩:=(bM Try.underlying3) H enc w base sp held n _ _ f1 g1
  obtain ⟨y2,hy2⟩ : ∃ y,xs[2]? = some y:=⟨xs[2]'(by rw [hxl]; simp),by simp⟩
  have f2:DataW.trod enc Try.prog w base sp held n 3 ((List.drop 2 [c0,c1,c2,c3,c4,c5,c6,c7,c8]).take (Try.prog.cellsOf 3)) = some y2:=(hf 2 _ rfl).trans hy2
  rw [show Try.prog.cellsOf 3 = 1 from by kernel_rfl] at f2
  have g2:=b6.part (P:=Try.prog) Try.underlying66 (i:=2) rfl hy2 hL
  obtain ⟨d2,t2⟩:=(bM Try.underlying3) H enc w base sp held n _ _ f2 g2
  obtain ⟨y3,hy3⟩ : ∃ y,xs[3]? = some y:=⟨xs[3]'(by rw [hxl]; simp),by simp⟩
  have f3:DataW.trod enc Try.prog w base sp held n 3 ((List.drop 3 [c0,c1,c2,c3,c4,c5,c6,c7,c8]).take (Try.prog.cellsOf 3)) = some y3:=(hf 3 _ rfl).trans hy3
  rw [show Try.prog.cellsOf 3 = 1 from by kernel_rfl] at f3
  have g3:=b6.part (P:=Try.prog) Try.underlying66 (i:=3) rfl hy3 hL
  obtain ⟨d3,t3⟩:=(bM Try.underlying3) H enc w base sp held n _ _ f3 g3
  obtain ⟨y4,hy4⟩ : ∃ y,xs[4]? = some y:=⟨xs[4]'(by rw [hxl]; simp),by simp⟩
  have f4:DataW.trod enc Try.prog w base sp held n 3 ((List.drop 4 [c0,c1,c2,c3,c4,c5,c6,c7,c8]).take (Try.prog.cellsOf 3)) = some y4:=(hf 4 _ rfl).trans hy4
  rw [show Try.prog.cellsOf 3 = 1 from by kernel_rfl] at f4
  have g4:=b6.part (P:=Try.prog) Try.underlying66 (i:=4) rfl hy4 hL
  obtain ⟨d4,t4⟩:=(bM Try.underlying3) H enc w base sp held n _ _ f4 g4
  obtain ⟨y5,hy5⟩ : ∃ y,xs[5]? = some y:=⟨xs[5]'(by rw [hxl]; simp),by simp⟩
  have f5:DataW.trod enc Try.prog w base sp held n 3 ((List.drop 5 [c0,c1,c2,c3,c4,c5,c6,c7,c8]).take (Try.prog.cellsOf 3)) = some y5:=(hf 5 _ rfl).trans hy5
  rw [show Try.prog.cellsOf 3 = 1 from by kernel_rfl] at f5
  have g5:=b6.part (P:=Try.prog) Try.underlying66 (i:=5) rfl hy5 hL
  obtain ⟨d5,t5⟩:=(bM Try.underlying3) H enc w base sp held n _ _ f5 g5
  obtain ⟨y6,hy6⟩ : ∃ y,xs[6]? = some y:=⟨xs[6]'(by rw [hxl]; simp),by simp⟩
  have f6:DataW.trod enc Try.prog w base sp held n 3 ((List.drop 6 [c0,c1,c2,c3,c4,c5,c6,c7,c8]).take (Try.prog.cellsOf 3)) = some y6:=(hf 6 _ rfl).trans hy6
  rw [show Try.prog.cellsOf 3 = 1 from by kernel_rfl] at f6
  have g6:=b6.part (P:=Try.prog) Try.underlying66 (i:=6) rfl hy6 hL
  obtain ⟨d6,t6⟩:=(bM Try.underlying3) H enc w base sp held n _ _ f6 g6
  obtain ⟨y7,hy7⟩ : ∃ y,xs[7]? = some y:=⟨xs[7]'(by rw [hxl]; simp),by simp⟩
  have f7:DataW.trod enc Try.prog w base sp held n 3 ((List.drop 7 [c0,c1,c2,c3,c4,c5,c6,c7,c8]).take (Try.prog.cellsOf 3)) = some y7:=(hf 7 _ rfl).trans hy7
  rw [show Try.prog.cellsOf 3 = 1 from by kernel_rfl] at f7
  have g7:=b6.part (P:=Try.prog) Try.underlying66 (i:=7) rfl hy7 hL
  obtain ⟨d7,t7⟩:=(bM Try.underlying3) H enc w base sp held n _ _ f7 g7
  obtain ⟨y8,hy8⟩ : ∃ y,xs[8]? = some y:=⟨xs[8]'(by rw [hxl]; simp),by simp⟩
  have f8:DataW.trod enc Try.prog w base sp held n 3 ((List.drop 8 [c0,c1,c2,c3,c4,c5,c6,c7,c8]).take (Try.prog.cellsOf 3)) = some y8:=(hf 8 _ rfl).trans hy8
  rw [show Try.prog.cellsOf 3 = 1 from by kernel_rfl] at f8
  have g8:=b6.part (P:=Try.prog) Try.underlying66 (i:=8) rfl hy8 hL
  obtain ⟨d8,t8⟩:=(bM Try.underlying3) H enc w base sp held n _ _ f8 g8
  obtain ⟨e0,q0⟩:=t0
  obtain ⟨e1,q1⟩:=t1
  obtain ⟨e2,q2⟩:=t2
  obtain ⟨e3,q3⟩:=t3
  obtain ⟨e4,q4⟩:=t4
  obtain ⟨e5,q5⟩:=t5
  obtain ⟨e6,q6⟩:=t6
  obtain ⟨e7,q7⟩:=t7
  obtain ⟨e8,q8⟩:=t8
  simp at e0 e1 e2 e3 e4 e5 e6 e7 e8
  exact ⟨⟨d0,d1,d2,d3,d4,d5,d6,d7,d8⟩,by simp [e0,e1,e2,e3,e4,e5,e6,e7,e8],q0,q1,q2,q3,q4,q5,q6,q7,q8⟩
def aZ.TV (w:World) (x:aZ) (cs:List Value):Prop :=
 cs = [.int .i64 x.At,.int .i64 x.Sum] ∧ (Lit.int .i64 x.At).wf = true ∧ (Lit.int .i64 x.Sum).wf = true
def aZ.wf (x:aZ):Prop:=pE x.At ∧ pE x.Sum
theorem aZ.TV_wf (w:World) (x:aZ) (cs:List Value) (h:aZ.TV w x cs):aZ.wf x:=by
 obtain ⟨e,q0,q1⟩:=h
 exact ⟨wf_i64 q0,wf_i64 q1⟩
theorem aZ.rds:LC aZ.TV aZ.cells 2:=fun w x cs h=>by
 obtain ⟨e,q0,q1⟩:=h
 subst e
 exact ⟨fP.cons (.int _ _) rfl (fP.cons (.int _ _) rfl (fP.nil _)),rfl⟩
theorem NX:oP Try.prog 72 aZ.TV:=fun H enc w base sp held fuel cs x h hL=>by
 obtain ⟨xs,n,hfuel,hxx,hlen,hxl,hf⟩:=DataW.trod_struct Try.underlying72 h
 subst hxx
 have hl:cs.length = 2:=hlen.trans (by kernel_rfl)
 match cs,hl with
 | [c0,c1],_ =>
  obtain ⟨y0,hy0⟩ : ∃ y,xs[0]? = some y:=⟨xs[0]'(by rw [hxl]; simp),by simp⟩
  have f0:DataW.trod enc Try.prog w base sp held n 3 ((List.drop 0 [c0,c1]).take (Try.prog.cellsOf 3)) = some y0:=(hf 0 _ rfl).trans hy0
  rw [show Try.prog.cellsOf 3 = 1 from by kernel_rfl] at f0
  have g0:=b6.part (P:=Try.prog) Try.underlying72 (i:=0) rfl hy0 hL
  obtain ⟨d0,t0⟩:=(bM Try.underlying3) H enc w base sp held n _ _ f0 g0
  obtain ⟨y1,hy1⟩ : ∃ y,xs[1]? = some y:=⟨xs[1]'(by rw [hxl]; simp),by simp⟩
  have f1:DataW.trod enc Try.prog w base sp held n 3 ((List.drop 1 [c0,c1]).take (Try.prog.cellsOf 3)) = some y1:=(hf 1 _ rfl).trans hy1
  rw [show Try.prog.cellsOf 3 = 1 from by kernel_rfl] at f1
  have g1:=b6.part (P:=Try.prog) Try.underlying72 (i:=1) rfl hy1 hL
  obtain ⟨d1,t1⟩:=(bM Try.underlying3) H enc w base sp held n _ _ f1 g1
  obtain ⟨e0,q0⟩:=t0
  obtain ⟨e1,q1⟩:=t1
  simp at e0 e1
  exact ⟨⟨d0,d1⟩,by simp [e0,e1],q0,q1⟩
def bB.TV (w:World) (x:bB) (cs:List Value):Prop :=
 cs = [.int .i64 x.Kind,.int .i64 x.Who,.int .i64 x.To,.int .i64 x.Part,.int .i64 x.At,.int .i64 x.Sum,.int .i64 x.Day,.int .i64 x.City,.int .i64 x.Form] ∧ (Lit.int .i64 x.Kind).wf = true ∧ (Lit.int .i64 x.Who).wf = true ∧ (Lit.int .i64 x.To).wf = true ∧ (Lit.int .i64 x.Part).wf = true ∧ (Lit.int .i64 x.At).wf = true ∧ (Lit.int .i64 x.Sum).wf = true ∧ (Lit.int .i64 x.Day).wf = true ∧ (Lit.int .i64 x.City).wf = true ∧ (Lit.int .i64 x.Form).wf = true
def bB.wf (x:bB):Prop:=pE x.Kind ∧ pE x.Who ∧ pE x.To ∧ pE x.Part ∧ pE x.At ∧ pE x.Sum ∧ pE x.Day ∧ pE x.City ∧ pE x.Form
theorem bB.TV_wf (w:World) (x:bB) (cs:List Value) (h:bB.TV w x cs):bB.wf x:=by
 obtain ⟨e,q0,q1,q2,q3,q4,q5,q6,q7,q8⟩:=h
 exact ⟨wf_i64 q0,wf_i64 q1,wf_i64 q2,wf_i64 q3,wf_i64 q4,wf_i64 q5,wf_i64 q6,wf_i64 q7,wf_i64 q8⟩
theorem bB.rds:LC bB.TV bB.cells 9:=fun w x cs h=>by
 obtain ⟨e,q0,q1,q2,q3,q4,q5,q6,q7,q8⟩:=h
 subst e
 exact ⟨fP.cons (.int _ _) rfl (fP.cons (.int _ _) rfl (fP.cons (.int _ _) rfl (fP.cons (.int _ _) rfl (fP.cons (.int _ _) rfl (fP.cons (.int _ _) rfl (fP.cons (.int _ _) rfl (fP.cons (.int _ _) rfl (fP.cons (.int _ _) rfl (fP.nil _))))))))),rfl⟩
theorem T2:oP Try.prog 81 bB.TV:=fun H enc w base sp held fuel cs x h hL=>by
 obtain ⟨xs,n,hfuel,hxx,hlen,hxl,hf⟩:=DataW.trod_struct Try.underlying81 h
 subst hxx
 have hl:cs.length = 9:=hlen.trans (by kernel_rfl)
 match cs,hl with
 | [c0,c1,c2,c3,c4,c5,c6,c7,c8],_ =>
  obtain ⟨y0,hy0⟩ : ∃ y,xs[0]? = some y:=⟨xs[0]'(by rw [hxl]; simp),by simp⟩
  have f0:DataW.trod enc Try.prog w base sp held n 3 ((List.drop 0 [c0,c1,c2,c3,c4,c5,c6,c7,c8]).take (Try.prog.cellsOf 3)) = some y0:=(hf 0 _ rfl).trans hy0
  rw [show Try.prog.cellsOf 3 = 1 from by kernel_rfl] at f0
  have g0:=b6.part (P:=Try.prog) Try.underlying81 (i:=0) rfl hy0 hL
  obtain ⟨d0,t0⟩:=(bM Try.underlying3) H enc w base sp held n _ _ f0 g0
  obtain ⟨y1,hy1⟩ : ∃ y,xs[1]? = some y:=⟨xs[1]'(by rw [hxl]; simp),by simp⟩
  have f1:DataW.trod enc Try.prog w base sp held n 3 ((List.drop 1 [c0,c1,c2,c3,c4,c5,c6,c7,c8]).take (Try.prog.cellsOf 3)) = some y1:=(hf 1 _ rfl).trans hy1
  rw [show Try.prog.cellsOf 3 = 1 from by kernel_rfl] at f1
  have g1:=b6.part (P:=Try.prog) Try.underlying81 (i:=1) rfl hy1 hL
  obtain ⟨d1,t1⟩:=(bM Try.underlying3) H enc w base sp held n _ _ f1 g1
  obtain ⟨y2,hy2⟩ : ∃ y,xs[2]? = some y:=⟨xs[2]'(by rw [hxl]; simp),by simp⟩
  have f2:DataW.trod enc Try.prog w base sp held n 3 ((List.drop 2 [c0,c1,c2,c3,c4,c5,c6,c7,c8]).take (Try.prog.cellsOf 3)) = some y2:=(hf 2 _ rfl).trans hy2
  rw [show Try.prog.cellsOf 3 = 1 from by kernel_rfl] at f2
  have g2:=b6.part (P:=Try.prog) Try.underlying81 (i:=2) rfl hy2 hL
  obtain ⟨d2,t2⟩:=(bM Try.underlying3) H enc w base sp held n _ _ f2 g2
  obtain ⟨y3,hy3⟩ : ∃ y,xs[3]? = some y:=⟨xs[3]'(by rw [hxl]; simp),by simp⟩
  have f3:DataW.trod enc Try.prog w base sp held n 3 ((List.drop 3 [c0,c1,c2,c3,c4,c5,c6,c7,c8]).take (Try.prog.cellsOf 3)) = some y3:=(hf 3 _ rfl).trans hy3
  rw [show Try.prog.cellsOf 3 = 1 from by kernel_rfl] at f3
  have g3:=b6.part (P:=Try.prog) Try.underlying81 (i:=3) rfl hy3 hL
  obtain ⟨d3,t3⟩:=(bM Try.underlying3) H enc w base sp held n _ _ f3 g3
  obtain ⟨y4,hy4⟩ : ∃ y,xs[4]? = some y:=⟨xs[4]'(by rw [hxl]; simp),by simp⟩
  have f4:DataW.trod enc Try.prog w base sp held n 3 ((List.drop 4 [c0,c1,c2,c3,c4,c5,c6,c7,c8]).take (Try.prog.cellsOf 3)) = some y4:=(hf 4 _ rfl).trans hy4
  rw [show Try.prog.cellsOf 3 = 1 from by kernel_rfl] at f4
  have g4:=b6.part (P:=Try.prog) Try.underlying81 (i:=4) rfl hy4 hL
  obtain ⟨d4,t4⟩:=(bM Try.underlying3) H enc w base sp held n _ _ f4 g4
  obtain ⟨y5,hy5⟩ : ∃ y,xs[5]? = some y:=⟨xs[5]'(by rw [hxl]; simp),by simp⟩
  have f5:DataW.trod enc Try.prog w base sp held n 3 ((List.drop 5 [c0,c1,c2,c3,c4,c5,c6,c7,c8]).take (Try.prog.cellsOf 3)) = some y5:=(hf 5 _ rfl).trans hy5
  rw [show Try.prog.cellsOf 3 = 1 from by kernel_rfl] at f5
  have g5:=b6.part (P:=Try.prog) Try.underlying81 (i:=5) rfl hy5 hL
  obtain ⟨d5,t5⟩:=(bM Try.underlying3) H enc w base sp held n _ _ f5 g5
  obtain ⟨y6,hy6⟩ : ∃ y,xs[6]? = some y:=⟨xs[6]'(by rw [hxl]; simp),by simp⟩
  have f6:DataW.trod enc Try.prog w base sp held n 3 ((List.drop 6 [c0,c1,c2,c3,c4,c5,c6,c7,c8]).take (Try.prog.cellsOf 3)) = some y6:=(hf 6 _ rfl).trans hy6
  rw [show Try.prog.cellsOf 3 = 1 from by kernel_rfl] at f6
  have g6:=b6.part (P:=Try.prog) Try.underlying81 (i:=6) rfl hy6 hL
  obtain ⟨d6,t6⟩:=(bM Try.underlying3) H enc w base sp held n _ _ f6 g6
  obtain ⟨y7,hy7⟩ : ∃ y,xs[7]? = some y:=⟨xs[7]'(by rw [hxl]; simp),by simp⟩
  have f7:DataW.trod enc Try.prog w base sp held n 3 ((List.drop 7 [c0,c1,c2,c3,c4,c5,c6,c7,c8]).take (Try.prog.cellsOf 3)) = some y7:=(hf 7 _ rfl).trans hy7
  rw [show Try.prog.cellsOf 3 = 1 from by kernel_rfl] at f7
  have g7:=b6.part (P:=Try.prog) Try.underlying81 (i:=7) rfl hy7 hL
  obtain ⟨d7,t7⟩:=(bM Try.underlying3) H enc w base sp held n _ _ f7 g7
  obtain ⟨y8,hy8⟩ : ∃ y,xs[8]? = some y:=⟨xs[8]'(by rw [hxl]; simp),by simp⟩
  have f8:DataW.trod enc Try.prog w base sp held n 3 ((List.drop 8 [c0,c1,c2,c3,c4,c5,c6,c7,c8]).take (Try.prog.cellsOf 3)) = some y8:=(hf 8 _ rfl).trans hy8
  rw [show Try.prog.cellsOf 3 = 1 from by kernel_rfl] at f8
  have g8:=b6.part (P:=Try.prog) Try.underlying81 (i:=8) rfl hy8 hL
  obtain ⟨d8,t8⟩:=(bM Try.underlying3) H enc w base sp held n _ _ f8 g8
  obtain ⟨e0,q0⟩:=t0
  obtain ⟨e1,q1⟩:=t1
  obtain ⟨e2,q2⟩:=t2
  obtain ⟨e3,q3⟩:=t3
  obtain ⟨e4,q4⟩:=t4
  obtain ⟨e5,q5⟩:=t5
  obtain ⟨e6,q6⟩:=t6
  obtain ⟨e7,q7⟩:=t7
  obtain ⟨e8,q8⟩:=t8
  simp at e0 e1 e2 e3 e4 e5 e6 e7 e8
  exact ⟨⟨d0,d1,d2,d3,d4,d5,d6,d7,d8⟩,by simp [e0,e1,e2,e3,e4,e5,e6,e7,e8],q0,q1,q2,q3,q4,q5,q6,q7,q8⟩
def bG.TV (w:World) (x:bG) (cs:List Value):Prop :=
 cs = [.int .i64 x.Kind,.int .i64 x.At,.int .i64 x.N] ∧ (Lit.int .i64 x.Kind).wf = true ∧ (Lit.int .i64 x.At).wf = true ∧ (Lit.int .i64 x.N).wf = true
def bG.wf (x:bG):Prop:=pE x.Kind ∧ pE x.At ∧ pE x.N
theorem bG.TV_wf (w:World) (x:bG) (cs:List Value) (h:bG.TV w x cs):bG.wf x:=by
 obtain ⟨e,q0,q1,q2⟩:=h
 exact ⟨wf_i64 q0,wf_i64 q1,wf_i64 q2⟩
theorem bG.rds:LC bG.TV bG.cells 3:=fun w x cs h=>by
 obtain ⟨e,q0,q1,q2⟩:=h
 subst e
 exact ⟨fP.cons (.int _ _) rfl (fP.cons (.int _ _) rfl (fP.cons (.int _ _) rfl (fP.nil _))),rfl⟩
theorem QD:oP Try.prog 58 bG.TV:=fun H enc w base sp held fuel cs x h hL=>by
 obtain ⟨xs,n,hfuel,hxx,hlen,hxl,hf⟩:=DataW.trod_struct Try.underlying58 h
 subst hxx
 have hl:cs.length = 3:=hlen.trans (by kernel_rfl)
 match cs,hl with
 | [c0,c1,c2],_ =>
  obtain ⟨y0,hy0⟩ : ∃ y,xs[0]? = some y:=⟨xs[0]'(by rw [hxl]; simp),by simp⟩
  have f0:DataW.trod enc Try.prog w base sp held n 3 ((List.drop 0 [c0,c1,c2]).take (Try.prog.cellsOf 3)) = some y0:=(hf 0 _ rfl).trans hy0
  rw [show Try.prog.cellsOf 3 = 1 from by kernel_rfl] at f0
  have g0:=b6.part (P:=Try.prog) Try.underlying58 (i:=0) rfl hy0 hL
  obtain ⟨d0,t0⟩:=(bM Try.underlying3) H enc w base sp held n _ _ f0 g0
  obtain ⟨y1,hy1⟩ : ∃ y,xs[1]? = some y:=⟨xs[1]'(by rw [hxl]; simp),by simp⟩
  have f1:DataW.trod enc Try.prog w base sp held n 3 ((List.drop 1 [c0,c1,c2]).take (Try.prog.cellsOf 3)) = some y1:=(hf 1 _ rfl).trans hy1
  rw [show Try.prog.cellsOf 3 = 1 from by kernel_rfl] at f1
  have g1:=b6.part (P:=Try.prog) Try.underlying58 (i:=1) rfl hy1 hL
  obtain ⟨d1,t1⟩:=(bM Try.underlying3) H enc w base sp held n _ _ f1 g1
  obtain ⟨y2,hy2⟩ : ∃ y,xs[2]? = some y:=⟨xs[2]'(by rw [hxl]; simp),by simp⟩
  have f2:DataW.trod enc Try.prog w base sp held n 3 ((List.drop 2 [c0,c1,c2]).take (Try.prog.cellsOf 3)) = some y2:=(hf 2 _ rfl).trans hy2
  rw [show Try.prog.cellsOf 3 = 1 from by kernel_rfl] at f2
  have g2:=b6.part (P:=Try.prog) Try.underlying58 (i:=2) rfl hy2 hL
  obtain ⟨d2,t2⟩:=(bM Try.underlying3) H enc w base sp held n _ _ f2 g2
  obtain ⟨e0,q0⟩:=t0
  obtain ⟨e1,q1⟩:=t1
  obtain ⟨e2,q2⟩:=t2
  simp at e0 e1 e2
  exact ⟨⟨d0,d1,d2⟩,by simp [e0,e1,e2],q0,q1,q2⟩
def aB.TV (w:World) (x:aB) (cs:List Value):Prop :=
 ∃ v0 v1 v2 v3:Value,cs = [.int .i64 x.Bill.Drawer,.int .i64 x.Bill.Drawee,.int .i64 x.Bill.Payee,.int .i64 x.Bill.Sum,.int .i64 x.Bill.Currency,.int .i64 x.Bill.Tenor.Kind,.int .i64 x.Bill.Tenor.N,.int .i64 x.Bill.Tenor.Unit,.int .i64 x.Bill.Day,.int .i64 x.Bill.City,.int .i64 x.Bill.Pay,.int .i64 x.Bill.Need,.int .i64 x.Bill.Rate,.int .i64 x.Bill.Flags,.int .i64 x.Bill.Parts,v0,v1,v2,v3] ∧ (Lit.int .i64 x.Bill.Drawer).wf = true ∧ (Lit.int .i64 x.Bill.Drawee).wf = true ∧ (Lit.int .i64 x.Bill.Payee).wf = true ∧ (Lit.int .i64 x.Bill.Sum).wf = true ∧ (Lit.int .i64 x.Bill.Currency).wf = true ∧ (Lit.int .i64 x.Bill.Tenor.Kind).wf = true ∧ (Lit.int .i64 x.Bill.Tenor.N).wf = true ∧ (Lit.int .i64 x.Bill.Tenor.Unit).wf = true ∧ (Lit.int .i64 x.Bill.Day).wf = true ∧ (Lit.int .i64 x.Bill.City).wf = true ∧ (Lit.int .i64 x.Bill.Pay).wf = true ∧ (Lit.int .i64 x.Bill.Need).wf = true ∧ (Lit.int .i64 x.Bill.Rate).wf = true ∧ (Lit.int .i64 x.Bill.Flags).wf = true ∧ (Lit.int .i64 x.Bill.Parts).wf = true ∧ Sq w aO.TV 9 72 v0 x.Signs ∧ Sq w aZ.TV 2 16 v1 x.Alters ∧ Sq w bB.TV 9 72 v2 x.Acts ∧ Sq w bG.TV 3 24 v3 x.Facts
def aB.wf (x:aB):Prop:=bD.wf x.Bill ∧ Wl aO.wf x.Signs ∧ Wl aZ.wf x.Alters ∧ Wl bB.wf x.Acts ∧ Wl bG.wf x.Facts
theorem aB.TV_wf (w:World) (x:aB) (cs:List Value) (h:aB.TV w x cs):aB.wf x:=by
 obtain ⟨v0,v1,v2,v3,e,q0,q1,q2,q3,q4,q5,q6,q7,q8,q9,q10,q11,q12,q13,q14,q15,q16,q17,q18⟩:=h
 exact ⟨⟨wf_i64 q0,wf_i64 q1,wf_i64 q2,wf_i64 q3,wf_i64 q4,⟨wf_i64 q5,wf_i64 q6,wf_i64 q7⟩,wf_i64 q8,wf_i64 q9,wf_i64 q10,wf_i64 q11,wf_i64 q12,wf_i64 q13,wf_i64 q14⟩,q15.wl aO.TV_wf,q16.wl aZ.TV_wf,q17.wl bB.TV_wf,q18.wl bG.TV_wf⟩
theorem aB.rds:LC aB.TV aB.cells 19:=fun w x cs h=>by
 obtain ⟨v0,v1,v2,v3,e,q0,q1,q2,q3,q4,q5,q6,q7,q8,q9,q10,q11,q12,q13,q14,q15,q16,q17,q18⟩:=h
 subst e
 exact ⟨fP.cons (.int _ _) rfl (fP.cons (.int _ _) rfl (fP.cons (.int _ _) rfl (fP.cons (.int _ _) rfl (fP.cons (.int _ _) rfl (fP.cons (.int _ _) rfl (fP.cons (.int _ _) rfl (fP.cons (.int _ _) rfl (fP.cons (.int _ _) rfl (fP.cons (.int _ _) rfl (fP.cons (.int _ _) rfl (fP.cons (.int _ _) rfl (fP.cons (.int _ _) rfl (fP.cons (.int _ _) rfl (fP.cons (.int _ _) rfl (fP.cons (q15.reads aO.rds) rfl (fP.cons (q16.reads aZ.rds) rfl (fP.cons (q17.reads bB.rds) rfl (fP.cons (q18.reads bG.rds) rfl (fP.nil _))))))))))))))))))),rfl⟩
theorem HQ:oP Try.prog 41 aB.TV:=fun H enc w base sp held fuel cs x h hL=>by
 obtain ⟨xs,n,hfuel,hxx,hlen,hxl,hf⟩:=DataW.trod_struct Try.underlying41 h
 subst hxx
 have hl:cs.length = 19:=hlen.trans (by kernel_rfl)
 match cs,hl with
 | [c0,c1,c2,c3,c4,c5,c6,c7,c8,c9,c10,c11,c12,c13,c14,c15,c16,c17,c18],_ =>
  obtain ⟨y0,hy0⟩ : ∃ y,xs[0]? = some y:=⟨xs[0]'(by rw [hxl]; simp),by simp⟩
  have f0:DataW.trod enc Try.prog w base sp held n 35 ((List.drop 0 [c0,c1,c2,c3,c4,c5,c6,c7,c8,c9,c10,c11,c12,c13,c14,c15,c16,c17,c18]).take (Try.prog.cellsOf 35)) = some y0:=(hf 0 _ rfl).trans hy0
  rw [show Try.prog.cellsOf 35 = 15 from by kernel_rfl] at f0
  have g0:=b6.part (P:=Try.prog) Try.underlying41 (i:=0) rfl hy0 hL
  obtain ⟨d0,t0⟩:=QP H enc w base sp held n _ _ f0 g0
  obtain ⟨y1,hy1⟩ : ∃ y,xs[1]? = some y:=⟨xs[1]'(by rw [hxl]; simp),by simp⟩
  have f1:DataW.trod enc Try.prog w base sp held n 36 ((List.drop 15 [c0,c1,c2,c3,c4,c5,c6,c7,c8,c9,c10,c11,c12,c13,c14,c15,c16,c17,c18]).take (Try.prog.cellsOf 36)) = some y1:=(hf 1 _ rfl).trans hy1
  rw [show Try.prog.cellsOf 36 = 1 from by kernel_rfl] at f1
  have g1:=b6.part (P:=Try.prog) Try.underlying41 (i:=1) rfl hy1 hL
  obtain ⟨d1,t1⟩:=(eV (k:=9) (bt:=72) Try.underlying36 (by kernel_rfl) (by kernel_rfl) (by omega) RJ) H enc w base sp held n _ _ f1 g1
  obtain ⟨y2,hy2⟩ : ∃ y,xs[2]? = some y:=⟨xs[2]'(by rw [hxl]; simp),by simp⟩
  have f2:DataW.trod enc Try.prog w base sp held n 37 ((List.drop 16 [c0,c1,c2,c3,c4,c5,c6,c7,c8,c9,c10,c11,c12,c13,c14,c15,c16,c17,c18]).take (Try.prog.cellsOf 37)) = some y2:=(hf 2 _ rfl).trans hy2
  rw [show Try.prog.cellsOf 37 = 1 from by kernel_rfl] at f2
  have g2:=b6.part (P:=Try.prog) Try.underlying41 (i:=2) rfl hy2 hL
  obtain ⟨d2,t2⟩:=(eV (k:=2) (bt:=16) Try.underlying37 (by kernel_rfl) (by kernel_rfl) (by omega) NX) H enc w base sp held n _ _ f2 g2
  obtain ⟨y3,hy3⟩ : ∃ y,xs[3]? = some y:=⟨xs[3]'(by rw [hxl]; simp),by simp⟩
  have f3:DataW.trod enc Try.prog w base sp held n 38 ((List.drop 17 [c0,c1,c2,c3,c4,c5,c6,c7,c8,c9,c10,c11,c12,c13,c14,c15,c16,c17,c18]).take (Try.prog.cellsOf 38)) = some y3:=(hf 3 _ rfl).trans hy3
  rw [show Try.prog.cellsOf 38 = 1 from by kernel_rfl] at f3
  have g3:=b6.part (P:=Try.prog) Try.underlying41 (i:=3) rfl hy3 hL
  obtain ⟨d3,t3⟩:=(eV (k:=9) (bt:=72) Try.underlying38 (by kernel_rfl) (by kernel_rfl) (by omega) T2) H enc w base sp held n _ _ f3 g3
  obtain ⟨y4,hy4⟩ : ∃ y,xs[4]? = some y:=⟨xs[4]'(by rw [hxl]; simp),by simp⟩
  have f4:DataW.trod enc Try.prog w base sp held n 39 ((List.drop 18 [c0,c1,c2,c3,c4,c5,c6,c7,c8,c9,c10,c11,c12,c13,c14,c15,c16,c17,c18]).take (Try.prog.cellsOf 39)) = some y4:=(hf 4 _ rfl).trans hy4
  rw [show Try.prog.cellsOf 39 = 1 from by kernel_rfl] at f4
  have g4:=b6.part (P:=Try.prog) Try.underlying41 (i:=4) rfl hy4 hL
  obtain ⟨d4,t4⟩:=(eV (k:=3) (bt:=24) Try.underlying39 (by kernel_rfl) (by kernel_rfl) (by omega) QD) H enc w base sp held n _ _ f4 g4
  obtain ⟨e0,q0_0,q0_1,q0_2,q0_3,q0_4,q0_5,q0_6,q0_7,q0_8,q0_9,q0_10,q0_11,q0_12,q0_13,q0_14⟩:=t0
  obtain ⟨u1,e1,q1⟩:=t1
  obtain ⟨u2,e2,q2⟩:=t2
  obtain ⟨u3,e3,q3⟩:=t3
  obtain ⟨u4,e4,q4⟩:=t4
  simp at e0 e1 e2 e3 e4
  exact ⟨⟨d0,d1,d2,d3,d4⟩,u1,u2,u3,u4,by simp [e0,e1,e2,e3,e4],q0_0,q0_1,q0_2,q0_3,q0_4,q0_5,q0_6,q0_7,q0_8,q0_9,q0_10,q0_11,q0_12,q0_13,q0_14,q1,q2,q3,q4⟩
end Go.Proofs.Ytfhebiceipgdmaa
