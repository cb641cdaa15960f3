/- How what a law is handed reads. Printed by a program. -/
import Derived.Test.YtfhebiceipgdmaaVmG
import Derived.Test.YtfhebiceipgdmaaTab
import Derived.KernelRfl
set_option linter.unusedVariables false
set_option maxRecDepth 100000
namespace Go.Proofs.Ytfhebiceipgdmaa
open Go.RowKit Go.ChangeShapes Go.WideShapes Go.Deep Vm
def bL.TV (w:World) (x:bL) (cs:List Value):Prop :=
 ∃ v0 v1 v2:Value,cs = [.string x.Name,.int .i64 x.Order,.int .i64 x.Currency,v0,v1,v2] ∧ x.Name.size ≤ maxLen ∧ (Lit.int .i64 x.Order).wf = true ∧ (Lit.int .i64 x.Currency).wf = true ∧ Sq w T8 1 8 v0 x.Rest ∧ Sq w T8 1 8 v1 x.Feasts ∧ Sq w T8 1 8 v2 x.Shut
def bL.wf (x:bL):Prop:=Ws x.Name ∧ pL x.Order ∧ pL x.Currency ∧ Wl pL x.Rest ∧ Wl pL x.Feasts ∧ Wl pL x.Shut
theorem bL.TV_wf (w:World) (x:bL) (cs:List Value) (h:bL.TV w x cs):bL.wf x:=by
 obtain ⟨v0,v1,v2,e,q0,q1,q2,q3,q4,q5⟩:=h
 exact ⟨Y0 q0,cF q1,cF q2,q3.wl (fun w x cs h=>cF h.2),q4.wl (fun w x cs h=>cF h.2),q5.wl (fun w x cs h=>cF h.2)⟩
def bL.fit (x:bL):Prop:=Fl (fun _=>True) 8 x.Rest ∧ Fl (fun _=>True) 8 x.Feasts ∧ Fl (fun _=>True) 8 x.Shut
theorem bL.TV_fit (w:World) (x:bL) (cs:List Value) (h:bL.TV w x cs):bL.fit x:=by
 obtain ⟨v0,v1,v2,e,q0,q1,q2,q3,q4,q5⟩:=h
 exact ⟨q3.fl (fun _ _ _ _=>trivial),q4.fl (fun _ _ _ _=>trivial),q5.fl (fun _ _ _ _=>trivial)⟩
theorem bL.rds:O6 bL.TV bL.cells 6:=fun w x cs h=>by
 obtain ⟨v0,v1,v2,e,q0,q1,q2,q3,q4,q5⟩:=h
 subst e
 exact ⟨gO.cons (.str _ q0) rfl (gO.cons (.int _ _) rfl (gO.cons (.int _ _) rfl (gO.cons (q3.reads R6) rfl (gO.cons (q4.reads R6) rfl (gO.cons (q5.reads R6) rfl (gO.nil _)))))),rfl⟩
theorem TN:rF Try.prog 87 bL.TV:=fun H enc w base sp held fuel cs x h hL=>by
 obtain ⟨xs,n,hfuel,hxx,hlen,hxl,hf⟩:=DataW.trod_struct Try.underlying87 h
 subst hxx
 have hl:cs.length = 6:=hlen.trans (by kernel_rfl)
 match cs,hl with
 | [c0,c1,c2,c3,c4,c5],_ =>
  obtain ⟨y0,hy0⟩ : ∃ y,xs[0]? = some y:=⟨xs[0]'(by rw [hxl]; simp),by simp⟩
  have f0:DataW.trod enc Try.prog w base sp held n 9 ((List.drop 0 [c0,c1,c2,c3,c4,c5]).take (Try.prog.cellsOf 9)) = some y0:=(hf 0 _ rfl).trans hy0
  rw [show Try.prog.cellsOf 9 = 1 from by kernel_rfl] at f0
  have g0:=Light.part (P:=Try.prog) Try.underlying87 (i:=0) rfl hy0 hL
  obtain ⟨d0,t0⟩:=(HB Try.underlying9) H enc w base sp held n _ _ f0 g0
  obtain ⟨y1,hy1⟩ : ∃ y,xs[1]? = some y:=⟨xs[1]'(by rw [hxl]; simp),by simp⟩
  have f1:DataW.trod enc Try.prog w base sp held n 3 ((List.drop 1 [c0,c1,c2,c3,c4,c5]).take (Try.prog.cellsOf 3)) = some y1:=(hf 1 _ rfl).trans hy1
  rw [show Try.prog.cellsOf 3 = 1 from by kernel_rfl] at f1
  have g1:=Light.part (P:=Try.prog) Try.underlying87 (i:=1) rfl hy1 hL
  obtain ⟨d1,t1⟩:=(bV Try.underlying3) H enc w base sp held n _ _ f1 g1
  obtain ⟨y2,hy2⟩ : ∃ y,xs[2]? = some y:=⟨xs[2]'(by rw [hxl]; simp),by simp⟩
  have f2:DataW.trod enc Try.prog w base sp held n 3 ((List.drop 2 [c0,c1,c2,c3,c4,c5]).take (Try.prog.cellsOf 3)) = some y2:=(hf 2 _ rfl).trans hy2
  rw [show Try.prog.cellsOf 3 = 1 from by kernel_rfl] at f2
  have g2:=Light.part (P:=Try.prog) Try.underlying87 (i:=2) rfl hy2 hL
  obtain ⟨d2,t2⟩:=(bV Try.underlying3) H enc w base sp held n _ _ f2 g2
  obtain ⟨y3,hy3⟩ : ∃ y,xs[3]? = some y:=⟨xs[3]'(by rw [hxl]; simp),by simp⟩
  have f3:DataW.trod enc Try.prog w base sp held n 68 ((List.drop 3 [c0,c1,c2,c3,c4,c5]).take (Try.prog.cellsOf 68)) = some y3:=(hf 3 _ rfl).trans hy3
  rw [show Try.prog.cellsOf 68 = 1 from by kernel_rfl] at f3
  have g3:=Light.part (P:=Try.prog) Try.underlying87 (i:=3) rfl hy3 hL
  obtain ⟨d3,t3⟩:=(fK (k:=1) (bt:=8) Try.underlying68 (by kernel_rfl) (by kernel_rfl) (by omega) (bV Try.underlying3)) H enc w base sp held n _ _ f3 g3
  obtain ⟨y4,hy4⟩ : ∃ y,xs[4]? = some y:=⟨xs[4]'(by rw [hxl]; simp),by simp⟩
  have f4:DataW.trod enc Try.prog w base sp held n 68 ((List.drop 4 [c0,c1,c2,c3,c4,c5]).take (Try.prog.cellsOf 68)) = some y4:=(hf 4 _ rfl).trans hy4
  rw [show Try.prog.cellsOf 68 = 1 from by kernel_rfl] at f4
  have g4:=Light.part (P:=Try.prog) Try.underlying87 (i:=4) rfl hy4 hL
  obtain ⟨d4,t4⟩:=(fK (k:=1) (bt:=8) Try.underlying68 (by kernel_rfl) (by kernel_rfl) (by omega) (bV Try.underlying3)) H enc w base sp held n _ _ f4 g4
  obtain ⟨y5,hy5⟩ : ∃ y,xs[5]? = some y:=⟨xs[5]'(by rw [hxl]; simp),by simp⟩
  have f5:DataW.trod enc Try.prog w base sp held n 68 ((List.drop 5 [c0,c1,c2,c3,c4,c5]).take (Try.prog.cellsOf 68)) = some y5:=(hf 5 _ rfl).trans hy5
  rw [show Try.prog.cellsOf 68 = 1 from by kernel_rfl] at f5
  have g5:=Light.part (P:=Try.prog) Try.underlying87 (i:=5) rfl hy5 hL
  obtain ⟨d5,t5⟩:=(fK (k:=1) (bt:=8) Try.underlying68 (by kernel_rfl) (by kernel_rfl) (by omega) (bV Try.underlying3)) H enc w base sp held n _ _ f5 g5
  obtain ⟨e0,q0⟩:=t0
  obtain ⟨e1,q1⟩:=t1
  obtain ⟨e2,q2⟩:=t2
  obtain ⟨u3,e3,q3⟩:=t3
  obtain ⟨u4,e4,q4⟩:=t4
  obtain ⟨u5,e5,q5⟩:=t5
  simp at e0 e1 e2 e3 e4 e5
  exact ⟨⟨d0,d1,d2,d3,d4,d5⟩,u3,u4,u5,by simp [e0,e1,e2,e3,e4,e5],q0,q1,q2,q3,q4,q5⟩
def bO.TV (w:World) (x:bO) (cs:List Value):Prop :=
 cs = [.int .i64 x.Grade] ∧ (Lit.int .i64 x.Grade).wf = true
def bO.wf (x:bO):Prop:=pL x.Grade
theorem bO.TV_wf (w:World) (x:bO) (cs:List Value) (h:bO.TV w x cs):bO.wf x:=by
 obtain ⟨e,q0⟩:=h
 exact cF q0
def bO.fit (x:bO):Prop:=True
theorem bO.TV_fit (w:World) (x:bO) (cs:List Value) (h:bO.TV w x cs):bO.fit x:=by
 obtain ⟨e,q0⟩:=h
 exact trivial
theorem bO.rds:O6 bO.TV bO.cells 1:=fun w x cs h=>by
 obtain ⟨e,q0⟩:=h
 subst e
 exact ⟨gO.cons (.int _ _) rfl (gO.nil _),rfl⟩
theorem RR:rF Try.prog 113 bO.TV:=fun H enc w base sp held fuel cs x h hL=>by
 obtain ⟨xs,n,hfuel,hxx,hlen,hxl,hf⟩:=DataW.trod_struct Try.underlying113 h
 subst hxx
 have hl:cs.length = 1:=hlen.trans (by kernel_rfl)
 match cs,hl with
 | [c0],_ =>
  obtain ⟨y0,hy0⟩ : ∃ y,xs[0]? = some y:=⟨xs[0]'(by rw [hxl]; simp),by simp⟩
  have f0:DataW.trod enc Try.prog w base sp held n 3 ((List.drop 0 [c0]).take (Try.prog.cellsOf 3)) = some y0:=(hf 0 _ rfl).trans hy0
  rw [show Try.prog.cellsOf 3 = 1 from by kernel_rfl] at f0
  have g0:=Light.part (P:=Try.prog) Try.underlying113 (i:=0) rfl hy0 hL
  obtain ⟨d0,t0⟩:=(bV Try.underlying3) H enc w base sp held n _ _ f0 g0
  obtain ⟨e0,q0⟩:=t0
  simp at e0
  exact ⟨⟨d0⟩,by simp [e0],q0⟩
def bU.TV (w:World) (x:bU) (cs:List Value):Prop :=
 cs = [.string x.Name,.int .i64 x.City,.int .i64 x.Group] ∧ x.Name.size ≤ maxLen ∧ (Lit.int .i64 x.City).wf = true ∧ (Lit.int .i64 x.Group).wf = true
def bU.wf (x:bU):Prop:=Ws x.Name ∧ pL x.City ∧ pL x.Group
theorem bU.TV_wf (w:World) (x:bU) (cs:List Value) (h:bU.TV w x cs):bU.wf x:=by
 obtain ⟨e,q0,q1,q2⟩:=h
 exact ⟨Y0 q0,cF q1,cF q2⟩
def bU.fit (x:bU):Prop:=True
theorem bU.TV_fit (w:World) (x:bU) (cs:List Value) (h:bU.TV w x cs):bU.fit x:=by
 obtain ⟨e,q0,q1,q2⟩:=h
 exact trivial
theorem bU.rds:O6 bU.TV bU.cells 3:=fun w x cs h=>by
 obtain ⟨e,q0,q1,q2⟩:=h
 subst e
 exact ⟨gO.cons (.str _ q0) rfl (gO.cons (.int _ _) rfl (gO.cons (.int _ _) rfl (gO.nil _))),rfl⟩
theorem TZ:rF Try.prog 115 bU.TV:=fun H enc w base sp held fuel cs x h hL=>by
 obtain ⟨xs,n,hfuel,hxx,hlen,hxl,hf⟩:=DataW.trod_struct Try.underlying115 h
 subst hxx
 have hl:cs.length = 3:=hlen.trans (by kernel_rfl)
 match cs,hl with
 | [c0,c1,c2],_ =>
  obtain ⟨y0,hy0⟩ : ∃ y,xs[0]? = some y:=⟨xs[0]'(by rw [hxl]; simp),by simp⟩
  have f0:DataW.trod enc Try.prog w base sp held n 9 ((List.drop 0 [c0,c1,c2]).take (Try.prog.cellsOf 9)) = some y0:=(hf 0 _ rfl).trans hy0
  rw [show Try.prog.cellsOf 9 = 1 from by kernel_rfl] at f0
  have g0:=Light.part (P:=Try.prog) Try.underlying115 (i:=0) rfl hy0 hL
  obtain ⟨d0,t0⟩:=(HB Try.underlying9) H enc w base sp held n _ _ f0 g0
  obtain ⟨y1,hy1⟩ : ∃ y,xs[1]? = some y:=⟨xs[1]'(by rw [hxl]; simp),by simp⟩
  have f1:DataW.trod enc Try.prog w base sp held n 3 ((List.drop 1 [c0,c1,c2]).take (Try.prog.cellsOf 3)) = some y1:=(hf 1 _ rfl).trans hy1
  rw [show Try.prog.cellsOf 3 = 1 from by kernel_rfl] at f1
  have g1:=Light.part (P:=Try.prog) Try.underlying115 (i:=1) rfl hy1 hL
  obtain ⟨d1,t1⟩:=(bV Try.underlying3) H enc w base sp held n _ _ f1 g1
  obtain ⟨y2,hy2⟩ : ∃ y,xs[2]? = some y:=⟨xs[2]'(by rw [hxl]; simp),by simp⟩
  have f2:DataW.trod enc Try.prog w base sp held n 3 ((List.drop 2 [c0,c1,c2]).take (Try.prog.cellsOf 3)) = some y2:=(hf 2 _ rfl).trans hy2
  rw [show Try.prog.cellsOf 3 = 1 from by kernel_rfl] at f2
  have g2:=Light.part (P:=Try.prog) Try.underlying115 (i:=2) rfl hy2 hL
  obtain ⟨d2,t2⟩:=(bV Try.underlying3) H enc w base sp held n _ _ f2 g2
  obtain ⟨e0,q0⟩:=t0
  obtain ⟨e1,q1⟩:=t1
  obtain ⟨e2,q2⟩:=t2
  simp at e0 e1 e2
  exact ⟨⟨d0,d1,d2⟩,by simp [e0,e1,e2],q0,q1,q2⟩
def bH.TV (w:World) (x:bH) (cs:List Value):Prop :=
 cs = [.int .i64 x.Ask,.int .i64 x.By,.bool x.Whole] ∧ (Lit.int .i64 x.Ask).wf = true ∧ (Lit.int .i64 x.By).wf = true
def bH.wf (x:bH):Prop:=pL x.Ask ∧ pL x.By
theorem bH.TV_wf (w:World) (x:bH) (cs:List Value) (h:bH.TV w x cs):bH.wf x:=by
 obtain ⟨e,q0,q1⟩:=h
 exact ⟨cF q0,cF q1⟩
def bH.fit (x:bH):Prop:=True
theorem bH.TV_fit (w:World) (x:bH) (cs:List Value) (h:bH.TV w x cs):bH.fit x:=by
 obtain ⟨e,q0,q1⟩:=h
 exact trivial
theorem bH.rds:O6 bH.TV bH.cells 3:=fun w x cs h=>by
 obtain ⟨e,q0,q1⟩:=h
 subst e
 exact ⟨gO.cons (.int _ _) rfl (gO.cons (.int _ _) rfl (gO.cons (.bool _) rfl (gO.nil _))),rfl⟩
theorem P1:rF Try.prog 137 bH.TV:=fun H enc w base sp held fuel cs x h hL=>by
 obtain ⟨xs,n,hfuel,hxx,hlen,hxl,hf⟩:=DataW.trod_struct Try.underlying137 h
 subst hxx
 have hl:cs.length = 3:=hlen.trans (by kernel_rfl)
 match cs,hl with
 | [c0,c1,c2],_ =>
  obtain ⟨y0,hy0⟩ : ∃ y,xs[0]? = some y:=⟨xs[0]'(by rw [hxl]; simp),by simp⟩
  have f0:DataW.trod enc Try.prog w base sp held n 3 ((List.drop 0 [c0,c1,c2]).take (Try.prog.cellsOf 3)) = some y0:=(hf 0 _ rfl).trans hy0
  rw [show Try.prog.cellsOf 3 = 1 from by kernel_rfl] at f0
  have g0:=Light.part (P:=Try.prog) Try.underlying137 (i:=0) rfl hy0 hL
  obtain ⟨d0,t0⟩:=(bV Try.underlying3) H enc w base sp held n _ _ f0 g0
  obtain ⟨y1,hy1⟩ : ∃ y,xs[1]? = some y:=⟨xs[1]'(by rw [hxl]; simp),by simp⟩
  have f1:DataW.trod enc Try.prog w base sp held n 3 ((List.drop 1 [c0,c1,c2]).take (Try.prog.cellsOf 3)) = some y1:=(hf 1 _ rfl).trans hy1
  rw [show Try.prog.cellsOf 3 = 1 from by kernel_rfl] at f1
  have g1:=Light.part (P:=Try.prog) Try.underlying137 (i:=1) rfl hy1 hL
  obtain ⟨d1,t1⟩:=(bV Try.underlying3) H enc w base sp held n _ _ f1 g1
  obtain ⟨y2,hy2⟩ : ∃ y,xs[2]? = some y:=⟨xs[2]'(by rw [hxl]; simp),by simp⟩
  have f2:DataW.trod enc Try.prog w base sp held n 4 ((List.drop 2 [c0,c1,c2]).take (Try.prog.cellsOf 4)) = some y2:=(hf 2 _ rfl).trans hy2
  rw [show Try.prog.cellsOf 4 = 1 from by kernel_rfl] at f2
  have g2:=Light.part (P:=Try.prog) Try.underlying137 (i:=2) rfl hy2 hL
  obtain ⟨d2,t2⟩:=(OO Try.underlying4) H enc w base sp held n _ _ f2 g2
  obtain ⟨e0,q0⟩:=t0
  obtain ⟨e1,q1⟩:=t1
  have e2:(_:List Value) = _:=t2
  simp at e0 e1 e2
  exact ⟨⟨d0,d1,d2⟩,by simp [e0,e1,e2],q0,q1⟩
def cE.TV (w:World) (x:cE) (cs:List Value):Prop :=
 ∃ v0:Value,cs = [.int .i64 x.Op,.int .i64 x.N,v0] ∧ (Lit.int .i64 x.Op).wf = true ∧ (Lit.int .i64 x.N).wf = true ∧ Sq w (Y7 3) 3 40 v0 x.Args
def cE.wf (x:cE):Prop:=pL x.Op ∧ pL x.N ∧ Wl (fun _=>True) x.Args
theorem cE.TV_wf (w:World) (x:cE) (cs:List Value) (h:cE.TV w x cs):cE.wf x:=by
 obtain ⟨v0,e,q0,q1,q2⟩:=h
 exact ⟨cF q0,cF q1,q2.wl (fun _ _ _ _=>trivial)⟩
def cE.fit (x:cE):Prop:=Fl (fun _=>True) 40 x.Args
theorem cE.TV_fit (w:World) (x:cE) (cs:List Value) (h:cE.TV w x cs):cE.fit x:=by
 obtain ⟨v0,e,q0,q1,q2⟩:=h
 exact q2.fl (fun _ _ _ _=>trivial)
theorem cE.rds:O6 cE.TV cE.cells 3:=fun w x cs h=>by
 obtain ⟨v0,e,q0,q1,q2⟩:=h
 subst e
 exact ⟨gO.cons (.int _ _) rfl (gO.cons (.int _ _) rfl (gO.cons (q2.reads (YY 3)) rfl (gO.nil _))),rfl⟩
theorem T2:rF Try.prog 140 cE.TV:=fun H enc w base sp held fuel=>by
 induction fuel using Nat.strongRecOn with
 | _ fuel ih =>
 intro cs x h hL
 obtain ⟨xs,n,hfuel,hxx,hlen,hxl,hf⟩:=DataW.trod_struct Try.underlying140 h
 subst hxx
 have hl:cs.length = 3:=hlen.trans (by kernel_rfl)
 match cs,hl with
 | [c0,c1,c2],_ =>
  obtain ⟨y0,hy0⟩ : ∃ y,xs[0]? = some y:=⟨xs[0]'(by rw [hxl]; simp),by simp⟩
  have f0:DataW.trod enc Try.prog w base sp held n 3 ((List.drop 0 [c0,c1,c2]).take (Try.prog.cellsOf 3)) = some y0:=(hf 0 _ rfl).trans hy0
  rw [show Try.prog.cellsOf 3 = 1 from by kernel_rfl] at f0
  have g0:=Light.part (P:=Try.prog) Try.underlying140 (i:=0) rfl hy0 hL
  obtain ⟨d0,t0⟩:=(bV Try.underlying3) H enc w base sp held n _ _ f0 g0
  obtain ⟨y1,hy1⟩ : ∃ y,xs[1]? = some y:=⟨xs[1]'(by rw [hxl]; simp),by simp⟩
  have f1:DataW.trod enc Try.prog w base sp held n 3 ((List.drop 1 [c0,c1,c2]).take (Try.prog.cellsOf 3)) = some y1:=(hf 1 _ rfl).trans hy1
  rw [show Try.prog.cellsOf 3 = 1 from by kernel_rfl] at f1
  have g1:=Light.part (P:=Try.prog) Try.underlying140 (i:=1) rfl hy1 hL
  obtain ⟨d1,t1⟩:=(bV Try.underlying3) H enc w base sp held n _ _ f1 g1
  obtain ⟨y2,hy2⟩ : ∃ y,xs[2]? = some y:=⟨xs[2]'(by rw [hxl]; simp),by simp⟩
  have f2:DataW.trod enc Try.prog w base sp held n 138 ((List.drop 2 [c0,c1,c2]).take (Try.prog.cellsOf 138)) = some y2:=(hf 2 _ rfl).trans hy2
  rw [show Try.prog.cellsOf 138 = 1 from by kernel_rfl] at f2
  have g2:=Light.part (P:=Try.prog) Try.underlying140 (i:=2) rfl hy2 hL
  obtain ⟨d2,t2⟩:=GS (k:=3) (bt:=40) (TV:=Y7 3) Try.underlying138 (by kernel_rfl) (by kernel_rfl) (by omega) (fun m hm cs x h hL=>by obtain ⟨g,hg⟩:=ih m (by omega) cs x h hL; exact ⟨cE.cells g,cE.rds _ _ _ hg⟩) f2 g2
  obtain ⟨e0,q0⟩:=t0
  obtain ⟨e1,q1⟩:=t1
  obtain ⟨u2,e2,q2⟩:=t2
  simp at e0 e1 e2
  exact ⟨⟨d0,d1,d2⟩,u2,by simp [e0,e1,e2],q0,q1,q2⟩
def bW.TV (w:World) (x:bW) (cs:List Value):Prop :=
 ∃ v0:Value,cs = [.int .i64 x.Ask,.int .i64 x.Term.Op,.int .i64 x.Term.N,v0] ∧ (Lit.int .i64 x.Ask).wf = true ∧ (Lit.int .i64 x.Term.Op).wf = true ∧ (Lit.int .i64 x.Term.N).wf = true ∧ Sq w (Y7 3) 3 40 v0 x.Term.Args
def bW.wf (x:bW):Prop:=pL x.Ask ∧ cE.wf x.Term
theorem bW.TV_wf (w:World) (x:bW) (cs:List Value) (h:bW.TV w x cs):bW.wf x:=by
 obtain ⟨v0,e,q0,q1,q2,q3⟩:=h
 exact ⟨cF q0,⟨cF q1,cF q2,q3.wl (fun _ _ _ _=>trivial)⟩⟩
def bW.fit (x:bW):Prop:=cE.fit x.Term
theorem bW.TV_fit (w:World) (x:bW) (cs:List Value) (h:bW.TV w x cs):bW.fit x:=by
 obtain ⟨v0,e,q0,q1,q2,q3⟩:=h
 exact q3.fl (fun _ _ _ _=>trivial)
theorem bW.rds:O6 bW.TV bW.cells 4:=fun w x cs h=>by
 obtain ⟨v0,e,q0,q1,q2,q3⟩:=h
 subst e
 exact ⟨gO.cons (.int _ _) rfl (gO.cons (.int _ _) rfl (gO.cons (.int _ _) rfl (gO.cons (q3.reads (YY 3)) rfl (gO.nil _)))),rfl⟩
theorem TM:rF Try.prog 142 bW.TV:=fun H enc w base sp held fuel cs x h hL=>by
 obtain ⟨xs,n,hfuel,hxx,hlen,hxl,hf⟩:=DataW.trod_struct Try.underlying142 h
 subst hxx
 have hl:cs.length = 4:=hlen.trans (by kernel_rfl)
 match cs,hl with
 | [c0,c1,c2,c3],_ =>
  obtain ⟨y0,hy0⟩ : ∃ y,xs[0]? = some y:=⟨xs[0]'(by rw [hxl]; simp),by simp⟩
  have f0:DataW.trod enc Try.prog w base sp held n 3 ((List.drop 0 [c0,c1,c2,c3]).take (Try.prog.cellsOf 3)) = some y0:=(hf 0 _ rfl).trans hy0
  rw [show Try.prog.cellsOf 3 = 1 from by kernel_rfl] at f0
  have g0:=Light.part (P:=Try.prog) Try.underlying142 (i:=0) rfl hy0 hL
  obtain ⟨d0,t0⟩:=(bV Try.underlying3) H enc w base sp held n _ _ f0 g0
  obtain ⟨y1,hy1⟩ : ∃ y,xs[1]? = some y:=⟨xs[1]'(by rw [hxl]; simp),by simp⟩
  have f1:DataW.trod enc Try.prog w base sp held n 140 ((List.drop 1 [c0,c1,c2,c3]).take (Try.prog.cellsOf 140)) = some y1:=(hf 1 _ rfl).trans hy1
  rw [show Try.prog.cellsOf 140 = 3 from by kernel_rfl] at f1
  have g1:=Light.part (P:=Try.prog) Try.underlying142 (i:=1) rfl hy1 hL
  obtain ⟨d1,t1⟩:=T2 H enc w base sp held n _ _ f1 g1
  obtain ⟨e0,q0⟩:=t0
  obtain ⟨u1_0,e1,q1_0,q1_1,q1_2⟩:=t1
  simp at e0 e1
  exact ⟨⟨d0,d1⟩,u1_0,by simp [e0,e1],q0,q1_0,q1_1,q1_2⟩
def bD.TV (w:World) (x:bD) (cs:List Value):Prop :=
 ∃ v0 v1:Value,cs = [.string x.Name,.bool x.Accepts,v0,v1] ∧ x.Name.size ≤ maxLen ∧ Sq w bH.TV 3 24 v0 x.Choices ∧ Sq w bW.TV 4 48 v1 x.Rules
def bD.wf (x:bD):Prop:=Ws x.Name ∧ Wl bH.wf x.Choices ∧ Wl bW.wf x.Rules
theorem bD.TV_wf (w:World) (x:bD) (cs:List Value) (h:bD.TV w x cs):bD.wf x:=by
 obtain ⟨v0,v1,e,q0,q1,q2⟩:=h
 exact ⟨Y0 q0,q1.wl bH.TV_wf,q2.wl bW.TV_wf⟩
def bD.fit (x:bD):Prop:=Fl bH.fit 24 x.Choices ∧ Fl bW.fit 48 x.Rules
theorem bD.TV_fit (w:World) (x:bD) (cs:List Value) (h:bD.TV w x cs):bD.fit x:=by
 obtain ⟨v0,v1,e,q0,q1,q2⟩:=h
 exact ⟨q1.fl bH.TV_fit,q2.fl bW.TV_fit⟩
theorem bD.rds:O6 bD.TV bD.cells 4:=fun w x cs h=>by
 obtain ⟨v0,v1,e,q0,q1,q2⟩:=h
 subst e
 exact ⟨gO.cons (.str _ q0) rfl (gO.cons (.bool _) rfl (gO.cons (q1.reads bH.rds) rfl (gO.cons (q2.reads bW.rds) rfl (gO.nil _)))),rfl⟩
theorem SG:rF Try.prog 91 bD.TV:=fun H enc w base sp held fuel cs x h hL=>by
 obtain ⟨xs,n,hfuel,hxx,hlen,hxl,hf⟩:=DataW.trod_struct Try.underlying91 h
 subst hxx
 have hl:cs.length = 4:=hlen.trans (by kernel_rfl)
 match cs,hl with
 | [c0,c1,c2,c3],_ =>
  obtain ⟨y0,hy0⟩ : ∃ y,xs[0]? = some y:=⟨xs[0]'(by rw [hxl]; simp),by simp⟩
  have f0:DataW.trod enc Try.prog w base sp held n 9 ((List.drop 0 [c0,c1,c2,c3]).take (Try.prog.cellsOf 9)) = some y0:=(hf 0 _ rfl).trans hy0
  rw [show Try.prog.cellsOf 9 = 1 from by kernel_rfl] at f0
  have g0:=Light.part (P:=Try.prog) Try.underlying91 (i:=0) rfl hy0 hL
  obtain ⟨d0,t0⟩:=(HB Try.underlying9) H enc w base sp held n _ _ f0 g0
  obtain ⟨y1,hy1⟩ : ∃ y,xs[1]? = some y:=⟨xs[1]'(by rw [hxl]; simp),by simp⟩
  have f1:DataW.trod enc Try.prog w base sp held n 4 ((List.drop 1 [c0,c1,c2,c3]).take (Try.prog.cellsOf 4)) = some y1:=(hf 1 _ rfl).trans hy1
  rw [show Try.prog.cellsOf 4 = 1 from by kernel_rfl] at f1
  have g1:=Light.part (P:=Try.prog) Try.underlying91 (i:=1) rfl hy1 hL
  obtain ⟨d1,t1⟩:=(OO Try.underlying4) H enc w base sp held n _ _ f1 g1
  obtain ⟨y2,hy2⟩ : ∃ y,xs[2]? = some y:=⟨xs[2]'(by rw [hxl]; simp),by simp⟩
  have f2:DataW.trod enc Try.prog w base sp held n 88 ((List.drop 2 [c0,c1,c2,c3]).take (Try.prog.cellsOf 88)) = some y2:=(hf 2 _ rfl).trans hy2
  rw [show Try.prog.cellsOf 88 = 1 from by kernel_rfl] at f2
  have g2:=Light.part (P:=Try.prog) Try.underlying91 (i:=2) rfl hy2 hL
  obtain ⟨d2,t2⟩:=(fK (k:=3) (bt:=24) Try.underlying88 (by kernel_rfl) (by kernel_rfl) (by omega) P1) H enc w base sp held n _ _ f2 g2
  obtain ⟨y3,hy3⟩ : ∃ y,xs[3]? = some y:=⟨xs[3]'(by rw [hxl]; simp),by simp⟩
  have f3:DataW.trod enc Try.prog w base sp held n 89 ((List.drop 3 [c0,c1,c2,c3]).take (Try.prog.cellsOf 89)) = some y3:=(hf 3 _ rfl).trans hy3
  rw [show Try.prog.cellsOf 89 = 1 from by kernel_rfl] at f3
  have g3:=Light.part (P:=Try.prog) Try.underlying91 (i:=3) rfl hy3 hL
  obtain ⟨d3,t3⟩:=(fK (k:=4) (bt:=48) Try.underlying89 (by kernel_rfl) (by kernel_rfl) (by omega) TM) H enc w base sp held n _ _ f3 g3
  obtain ⟨e0,q0⟩:=t0
  have e1:(_:List Value) = _:=t1
  obtain ⟨u2,e2,q2⟩:=t2
  obtain ⟨u3,e3,q3⟩:=t3
  simp at e0 e1 e2 e3
  exact ⟨⟨d0,d1,d2,d3⟩,u2,u3,by simp [e0,e1,e2,e3],q0,q2,q3⟩
def bA.TV (w:World) (x:bA) (cs:List Value):Prop :=
 cs = [.int .i64 x.From,.int .i64 x.To,.int .i64 x.Days] ∧ (Lit.int .i64 x.From).wf = true ∧ (Lit.int .i64 x.To).wf = true ∧ (Lit.int .i64 x.Days).wf = true
def bA.wf (x:bA):Prop:=pL x.From ∧ pL x.To ∧ pL x.Days
theorem bA.TV_wf (w:World) (x:bA) (cs:List Value) (h:bA.TV w x cs):bA.wf x:=by
 obtain ⟨e,q0,q1,q2⟩:=h
 exact ⟨cF q0,cF q1,cF q2⟩
def bA.fit (x:bA):Prop:=True
theorem bA.TV_fit (w:World) (x:bA) (cs:List Value) (h:bA.TV w x cs):bA.fit x:=by
 obtain ⟨e,q0,q1,q2⟩:=h
 exact trivial
theorem bA.rds:O6 bA.TV bA.cells 3:=fun w x cs h=>by
 obtain ⟨e,q0,q1,q2⟩:=h
 subst e
 exact ⟨gO.cons (.int _ _) rfl (gO.cons (.int _ _) rfl (gO.cons (.int _ _) rfl (gO.nil _))),rfl⟩
theorem PG:rF Try.prog 131 bA.TV:=fun H enc w base sp held fuel cs x h hL=>by
 obtain ⟨xs,n,hfuel,hxx,hlen,hxl,hf⟩:=DataW.trod_struct Try.underlying131 h
 subst hxx
 have hl:cs.length = 3:=hlen.trans (by kernel_rfl)
 match cs,hl with
 | [c0,c1,c2],_ =>
  obtain ⟨y0,hy0⟩ : ∃ y,xs[0]? = some y:=⟨xs[0]'(by rw [hxl]; simp),by simp⟩
  have f0:DataW.trod enc Try.prog w base sp held n 3 ((List.drop 0 [c0,c1,c2]).take (Try.prog.cellsOf 3)) = some y0:=(hf 0 _ rfl).trans hy0
  rw [show Try.prog.cellsOf 3 = 1 from by kernel_rfl] at f0
  have g0:=Light.part (P:=Try.prog) Try.underlying131 (i:=0) rfl hy0 hL
  obtain ⟨d0,t0⟩:=(bV Try.underlying3) H enc w base sp held n _ _ f0 g0
  obtain ⟨y1,hy1⟩ : ∃ y,xs[1]? = some y:=⟨xs[1]'(by rw [hxl]; simp),by simp⟩
  have f1:DataW.trod enc Try.prog w base sp held n 3 ((List.drop 1 [c0,c1,c2]).take (Try.prog.cellsOf 3)) = some y1:=(hf 1 _ rfl).trans hy1
  rw [show Try.prog.cellsOf 3 = 1 from by kernel_rfl] at f1
  have g1:=Light.part (P:=Try.prog) Try.underlying131 (i:=1) rfl hy1 hL
  obtain ⟨d1,t1⟩:=(bV Try.underlying3) H enc w base sp held n _ _ f1 g1
  obtain ⟨y2,hy2⟩ : ∃ y,xs[2]? = some y:=⟨xs[2]'(by rw [hxl]; simp),by simp⟩
  have f2:DataW.trod enc Try.prog w base sp held n 3 ((List.drop 2 [c0,c1,c2]).take (Try.prog.cellsOf 3)) = some y2:=(hf 2 _ rfl).trans hy2
  rw [show Try.prog.cellsOf 3 = 1 from by kernel_rfl] at f2
  have g2:=Light.part (P:=Try.prog) Try.underlying131 (i:=2) rfl hy2 hL
  obtain ⟨d2,t2⟩:=(bV Try.underlying3) H enc w base sp held n _ _ f2 g2
  obtain ⟨e0,q0⟩:=t0
  obtain ⟨e1,q1⟩:=t1
  obtain ⟨e2,q2⟩:=t2
  simp at e0 e1 e2
  exact ⟨⟨d0,d1,d2⟩,by simp [e0,e1,e2],q0,q1,q2⟩
def bX.TV (w:World) (x:bX) (cs:List Value):Prop :=
 cs = [.int .i64 x.From,.int .i64 x.To,.int .i64 x.Num,.int .i64 x.Den,.int .i64 x.Since] ∧ (Lit.int .i64 x.From).wf = true ∧ (Lit.int .i64 x.To).wf = true ∧ (Lit.int .i64 x.Num).wf = true ∧ (Lit.int .i64 x.Den).wf = true ∧ (Lit.int .i64 x.Since).wf = true
def bX.wf (x:bX):Prop:=pL x.From ∧ pL x.To ∧ pL x.Num ∧ pL x.Den ∧ pL x.Since
theorem bX.TV_wf (w:World) (x:bX) (cs:List Value) (h:bX.TV w x cs):bX.wf x:=by
 obtain ⟨e,q0,q1,q2,q3,q4⟩:=h
 exact ⟨cF q0,cF q1,cF q2,cF q3,cF q4⟩
def bX.fit (x:bX):Prop:=True
theorem bX.TV_fit (w:World) (x:bX) (cs:List Value) (h:bX.TV w x cs):bX.fit x:=by
 obtain ⟨e,q0,q1,q2,q3,q4⟩:=h
 exact trivial
theorem bX.rds:O6 bX.TV bX.cells 5:=fun w x cs h=>by
 obtain ⟨e,q0,q1,q2,q3,q4⟩:=h
 subst e
 exact ⟨gO.cons (.int _ _) rfl (gO.cons (.int _ _) rfl (gO.cons (.int _ _) rfl (gO.cons (.int _ _) rfl (gO.cons (.int _ _) rfl (gO.nil _))))),rfl⟩
theorem SH:rF Try.prog 144 bX.TV:=fun H enc w base sp held fuel cs x h hL=>by
 obtain ⟨xs,n,hfuel,hxx,hlen,hxl,hf⟩:=DataW.trod_struct Try.underlying144 h
 subst hxx
 have hl:cs.length = 5:=hlen.trans (by kernel_rfl)
 match cs,hl with
 | [c0,c1,c2,c3,c4],_ =>
  obtain ⟨y0,hy0⟩ : ∃ y,xs[0]? = some y:=⟨xs[0]'(by rw [hxl]; simp),by simp⟩
  have f0:DataW.trod enc Try.prog w base sp held n 3 ((List.drop 0 [c0,c1,c2,c3,c4]).take (Try.prog.cellsOf 3)) = some y0:=(hf 0 _ rfl).trans hy0
  rw [show Try.prog.cellsOf 3 = 1 from by kernel_rfl] at f0
  have g0:=Light.part (P:=Try.prog) Try.underlying144 (i:=0) rfl hy0 hL
  obtain ⟨d0,t0⟩:=(bV Try.underlying3) H enc w base sp held n _ _ f0 g0
  obtain ⟨y1,hy1⟩ : ∃ y,xs[1]? = some y:=⟨xs[1]'(by rw [hxl]; simp),by simp⟩
  have f1:DataW.trod enc Try.prog w base sp held n 3 ((List.drop 1 [c0,c1,c2,c3,c4]).take (Try.prog.cellsOf 3)) = some y1:=(hf 1 _ rfl).trans hy1
  rw [show Try.prog.cellsOf 3 = 1 from by kernel_rfl] at f1
  have g1:=Light.part (P:=Try.prog) Try.underlying144 (i:=1) rfl hy1 hL
  obtain ⟨d1,t1⟩:=(bV Try.underlying3) H enc w base sp held n _ _ f1 g1
  obtain ⟨y2,hy2⟩ : ∃ y,xs[2]? = some y:=⟨xs[2]'(by rw [hxl]; simp),by simp⟩
  have f2:DataW.trod enc Try.prog w base sp held n 3 ((List.drop 2 [c0,c1,c2,c3,c4]).take (Try.prog.cellsOf 3)) = some y2:=(hf 2 _ rfl).trans hy2
  rw [show Try.prog.cellsOf 3 = 1 from by kernel_rfl] at f2
  have g2:=Light.part (P:=Try.prog) Try.underlying144 (i:=2) rfl hy2 hL
  obtain ⟨d2,t2⟩:=(bV Try.underlying3) H enc w base sp held n _ _ f2 g2
  obtain ⟨y3,hy3⟩ : ∃ y,xs[3]? = some y:=⟨xs[3]'(by rw [hxl]; simp),by simp⟩
  have f3:DataW.trod enc Try.prog w base sp held n 3 ((List.drop 3 [c0,c1,c2,c3,c4]).take (Try.prog.cellsOf 3)) = some y3:=(hf 3 _ rfl).trans hy3
  rw [show Try.prog.cellsOf 3 = 1 from by kernel_rfl] at f3
  have g3:=Light.part (P:=Try.prog) Try.underlying144 (i:=3) rfl hy3 hL
  obtain ⟨d3,t3⟩:=(bV Try.underlying3) H enc w base sp held n _ _ f3 g3
  obtain ⟨y4,hy4⟩ : ∃ y,xs[4]? = some y:=⟨xs[4]'(by rw [hxl]; simp),by simp⟩
  have f4:DataW.trod enc Try.prog w base sp held n 3 ((List.drop 4 [c0,c1,c2,c3,c4]).take (Try.prog.cellsOf 3)) = some y4:=(hf 4 _ rfl).trans hy4
  rw [show Try.prog.cellsOf 3 = 1 from by kernel_rfl] at f4
  have g4:=Light.part (P:=Try.prog) Try.underlying144 (i:=4) rfl hy4 hL
  obtain ⟨d4,t4⟩:=(bV Try.underlying3) H enc w base sp held n _ _ f4 g4
  obtain ⟨e0,q0⟩:=t0
  obtain ⟨e1,q1⟩:=t1
  obtain ⟨e2,q2⟩:=t2
  obtain ⟨e3,q3⟩:=t3
  obtain ⟨e4,q4⟩:=t4
  simp at e0 e1 e2 e3 e4
  exact ⟨⟨d0,d1,d2,d3,d4⟩,by simp [e0,e1,e2,e3,e4],q0,q1,q2,q3,q4⟩
def bZ.TV (w:World) (x:bZ) (cs:List Value):Prop :=
 cs = [.int .i64 x.Order,.int .i64 x.From,.int .i64 x.To] ∧ (Lit.int .i64 x.Order).wf = true ∧ (Lit.int .i64 x.From).wf = true ∧ (Lit.int .i64 x.To).wf = true
def bZ.wf (x:bZ):Prop:=pL x.Order ∧ pL x.From ∧ pL x.To
theorem bZ.TV_wf (w:World) (x:bZ) (cs:List Value) (h:bZ.TV w x cs):bZ.wf x:=by
 obtain ⟨e,q0,q1,q2⟩:=h
 exact ⟨cF q0,cF q1,cF q2⟩
def bZ.fit (x:bZ):Prop:=True
theorem bZ.TV_fit (w:World) (x:bZ) (cs:List Value) (h:bZ.TV w x cs):bZ.fit x:=by
 obtain ⟨e,q0,q1,q2⟩:=h
 exact trivial
theorem bZ.rds:O6 bZ.TV bZ.cells 3:=fun w x cs h=>by
 obtain ⟨e,q0,q1,q2⟩:=h
 subst e
 exact ⟨gO.cons (.int _ _) rfl (gO.cons (.int _ _) rfl (gO.cons (.int _ _) rfl (gO.nil _))),rfl⟩
theorem SM:rF Try.prog 146 bZ.TV:=fun H enc w base sp held fuel cs x h hL=>by
 obtain ⟨xs,n,hfuel,hxx,hlen,hxl,hf⟩:=DataW.trod_struct Try.underlying146 h
 subst hxx
 have hl:cs.length = 3:=hlen.trans (by kernel_rfl)
 match cs,hl with
 | [c0,c1,c2],_ =>
  obtain ⟨y0,hy0⟩ : ∃ y,xs[0]? = some y:=⟨xs[0]'(by rw [hxl]; simp),by simp⟩
  have f0:DataW.trod enc Try.prog w base sp held n 3 ((List.drop 0 [c0,c1,c2]).take (Try.prog.cellsOf 3)) = some y0:=(hf 0 _ rfl).trans hy0
  rw [show Try.prog.cellsOf 3 = 1 from by kernel_rfl] at f0
  have g0:=Light.part (P:=Try.prog) Try.underlying146 (i:=0) rfl hy0 hL
  obtain ⟨d0,t0⟩:=(bV Try.underlying3) H enc w base sp held n _ _ f0 g0
  obtain ⟨y1,hy1⟩ : ∃ y,xs[1]? = some y:=⟨xs[1]'(by rw [hxl]; simp),by simp⟩
  have f1:DataW.trod enc Try.prog w base sp held n 3 ((List.drop 1 [c0,c1,c2]).take (Try.prog.cellsOf 3)) = some y1:=(hf 1 _ rfl).trans hy1
  rw [show Try.prog.cellsOf 3 = 1 from by kernel_rfl] at f1
  have g1:=Light.part (P:=Try.prog) Try.underlying146 (i:=1) rfl hy1 hL
  obtain ⟨d1,t1⟩:=(bV Try.underlying3) H enc w base sp held n _ _ f1 g1
  obtain ⟨y2,hy2⟩ : ∃ y,xs[2]? = some y:=⟨xs[2]'(by rw [hxl]; simp),by simp⟩
  have f2:DataW.trod enc Try.prog w base sp held n 3 ((List.drop 2 [c0,c1,c2]).take (Try.prog.cellsOf 3)) = some y2:=(hf 2 _ rfl).trans hy2
  rw [show Try.prog.cellsOf 3 = 1 from by kernel_rfl] at f2
  have g2:=Light.part (P:=Try.prog) Try.underlying146 (i:=2) rfl hy2 hL
  obtain ⟨d2,t2⟩:=(bV Try.underlying3) H enc w base sp held n _ _ f2 g2
  obtain ⟨e0,q0⟩:=t0
  obtain ⟨e1,q1⟩:=t1
  obtain ⟨e2,q2⟩:=t2
  simp at e0 e1 e2
  exact ⟨⟨d0,d1,d2⟩,by simp [e0,e1,e2],q0,q1,q2⟩
def aA.TV (w:World) (x:aA) (cs:List Value):Prop :=
 ∃ v0 v1 v2 v3 v4 v5 v6 v7:Value,cs = [v0,v1,v2,v3,v4,v5,v6,v7] ∧ Sq w aDd 1 16 v0 x.Currencies ∧ Sq w bL.TV 6 104 v1 x.Cities ∧ Sq w bO.TV 1 8 v2 x.Groups ∧ Sq w bU.TV 3 32 v3 x.Firms ∧ Sq w bD.TV 4 72 v4 x.Orders ∧ Sq w bA.TV 3 24 v5 x.Usances ∧ Sq w bX.TV 5 40 v6 x.Rates ∧ Sq w bZ.TV 3 24 v7 x.Halts
def aA.wf (x:aA):Prop:=Wl Ws x.Currencies ∧ Wl bL.wf x.Cities ∧ Wl bO.wf x.Groups ∧ Wl bU.wf x.Firms ∧ Wl bD.wf x.Orders ∧ Wl bA.wf x.Usances ∧ Wl bX.wf x.Rates ∧ Wl bZ.wf x.Halts
theorem aA.TV_wf (w:World) (x:aA) (cs:List Value) (h:aA.TV w x cs):aA.wf x:=by
 obtain ⟨v0,v1,v2,v3,v4,v5,v6,v7,e,q0,q1,q2,q3,q4,q5,q6,q7⟩:=h
 exact ⟨q0.wl (fun w x cs h=>Y0 h.2),q1.wl bL.TV_wf,q2.wl bO.TV_wf,q3.wl bU.TV_wf,q4.wl bD.TV_wf,q5.wl bA.TV_wf,q6.wl bX.TV_wf,q7.wl bZ.TV_wf⟩
def aA.fit (x:aA):Prop:=Fl (fun _=>True) 16 x.Currencies ∧ Fl bL.fit 104 x.Cities ∧ Fl bO.fit 8 x.Groups ∧ Fl bU.fit 32 x.Firms ∧ Fl bD.fit 72 x.Orders ∧ Fl bA.fit 24 x.Usances ∧ Fl bX.fit 40 x.Rates ∧ Fl bZ.fit 24 x.Halts
theorem aA.TV_fit (w:World) (x:aA) (cs:List Value) (h:aA.TV w x cs):aA.fit x:=by
 obtain ⟨v0,v1,v2,v3,v4,v5,v6,v7,e,q0,q1,q2,q3,q4,q5,q6,q7⟩:=h
 exact ⟨q0.fl (fun _ _ _ _=>trivial),q1.fl bL.TV_fit,q2.fl bO.TV_fit,q3.fl bU.TV_fit,q4.fl bD.TV_fit,q5.fl bA.TV_fit,q6.fl bX.TV_fit,q7.fl bZ.TV_fit⟩
theorem aA.rds:O6 aA.TV aA.cells 8:=fun w x cs h=>by
 obtain ⟨v0,v1,v2,v3,v4,v5,v6,v7,e,q0,q1,q2,q3,q4,q5,q6,q7⟩:=h
 subst e
 exact ⟨gO.cons (q0.reads aH9) rfl (gO.cons (q1.reads bL.rds) rfl (gO.cons (q2.reads bO.rds) rfl (gO.cons (q3.reads bU.rds) rfl (gO.cons (q4.reads bD.rds) rfl (gO.cons (q5.reads bA.rds) rfl (gO.cons (q6.reads bX.rds) rfl (gO.cons (q7.reads bZ.rds) rfl (gO.nil _)))))))),rfl⟩
theorem RH:rF Try.prog 31 aA.TV:=fun H enc w base sp held fuel cs x h hL=>by
 obtain ⟨xs,n,hfuel,hxx,hlen,hxl,hf⟩:=DataW.trod_struct Try.underlying31 h
 subst hxx
 have hl:cs.length = 8:=hlen.trans (by kernel_rfl)
 match cs,hl with
 | [c0,c1,c2,c3,c4,c5,c6,c7],_ =>
  obtain ⟨y0,hy0⟩ : ∃ y,xs[0]? = some y:=⟨xs[0]'(by rw [hxl]; simp),by simp⟩
  have f0:DataW.trod enc Try.prog w base sp held n 22 ((List.drop 0 [c0,c1,c2,c3,c4,c5,c6,c7]).take (Try.prog.cellsOf 22)) = some y0:=(hf 0 _ rfl).trans hy0
  rw [show Try.prog.cellsOf 22 = 1 from by kernel_rfl] at f0
  have g0:=Light.part (P:=Try.prog) Try.underlying31 (i:=0) rfl hy0 hL
  obtain ⟨d0,t0⟩:=(fK (k:=1) (bt:=16) Try.underlying22 (by kernel_rfl) (by kernel_rfl) (by omega) (HB Try.underlying9)) H enc w base sp held n _ _ f0 g0
  obtain ⟨y1,hy1⟩ : ∃ y,xs[1]? = some y:=⟨xs[1]'(by rw [hxl]; simp),by simp⟩
  have f1:DataW.trod enc Try.prog w base sp held n 23 ((List.drop 1 [c0,c1,c2,c3,c4,c5,c6,c7]).take (Try.prog.cellsOf 23)) = some y1:=(hf 1 _ rfl).trans hy1
  rw [show Try.prog.cellsOf 23 = 1 from by kernel_rfl] at f1
  have g1:=Light.part (P:=Try.prog) Try.underlying31 (i:=1) rfl hy1 hL
  obtain ⟨d1,t1⟩:=(fK (k:=6) (bt:=104) Try.underlying23 (by kernel_rfl) (by kernel_rfl) (by omega) TN) H enc w base sp held n _ _ f1 g1
  obtain ⟨y2,hy2⟩ : ∃ y,xs[2]? = some y:=⟨xs[2]'(by rw [hxl]; simp),by simp⟩
  have f2:DataW.trod enc Try.prog w base sp held n 24 ((List.drop 2 [c0,c1,c2,c3,c4,c5,c6,c7]).take (Try.prog.cellsOf 24)) = some y2:=(hf 2 _ rfl).trans hy2
  rw [show Try.prog.cellsOf 24 = 1 from by kernel_rfl] at f2
  have g2:=Light.part (P:=Try.prog) Try.underlying31 (i:=2) rfl hy2 hL
  obtain ⟨d2,t2⟩:=(fK (k:=1) (bt:=8) Try.underlying24 (by kernel_rfl) (by kernel_rfl) (by omega) RR) H enc w base sp held n _ _ f2 g2
  obtain ⟨y3,hy3⟩ : ∃ y,xs[3]? = some y:=⟨xs[3]'(by rw [hxl]; simp),by simp⟩
  have f3:DataW.trod enc Try.prog w base sp held n 25 ((List.drop 3 [c0,c1,c2,c3,c4,c5,c6,c7]).take (Try.prog.cellsOf 25)) = some y3:=(hf 3 _ rfl).trans hy3
  rw [show Try.prog.cellsOf 25 = 1 from by kernel_rfl] at f3
  have g3:=Light.part (P:=Try.prog) Try.underlying31 (i:=3) rfl hy3 hL
  obtain ⟨d3,t3⟩:=(fK (k:=3) (bt:=32) Try.underlying25 (by kernel_rfl) (by kernel_rfl) (by omega) TZ) H enc w base sp held n _ _ f3 g3
  obtain ⟨y4,hy4⟩ : ∃ y,xs[4]? = some y:=⟨xs[4]'(by rw [hxl]; simp),by simp⟩
  have f4:DataW.trod enc Try.prog w base sp held n 26 ((List.drop 4 [c0,c1,c2,c3,c4,c5,c6,c7]).take (Try.prog.cellsOf 26)) = some y4:=(hf 4 _ rfl).trans hy4
  rw [show Try.prog.cellsOf 26 = 1 from by kernel_rfl] at f4
  have g4:=Light.part (P:=Try.prog) Try.underlying31 (i:=4) rfl hy4 hL
  obtain ⟨d4,t4⟩:=(fK (k:=4) (bt:=72) Try.underlying26 (by kernel_rfl) (by kernel_rfl) (by omega) SG) H enc w base sp held n _ _ f4 g4
  obtain ⟨y5,hy5⟩ : ∃ y,xs[5]? = some y:=⟨xs[5]'(by rw [hxl]; simp),by simp⟩
  have f5:DataW.trod enc Try.prog w base sp held n 27 ((List.drop 5 [c0,c1,c2,c3,c4,c5,c6,c7]).take (Try.prog.cellsOf 27)) = some y5:=(hf 5 _ rfl).trans hy5
  rw [show Try.prog.cellsOf 27 = 1 from by kernel_rfl] at f5
  have g5:=Light.part (P:=Try.prog) Try.underlying31 (i:=5) rfl hy5 hL
  obtain ⟨d5,t5⟩:=(fK (k:=3) (bt:=24) Try.underlying27 (by kernel_rfl) (by kernel_rfl) (by omega) PG) H enc w base sp held n _ _ f5 g5
  obtain ⟨y6,hy6⟩ : ∃ y,xs[6]? = some y:=⟨xs[6]'(by rw [hxl]; simp),by simp⟩
  have f6:DataW.trod enc Try.prog w base sp held n 28 ((List.drop 6 [c0,c1,c2,c3,c4,c5,c6,c7]).take (Try.prog.cellsOf 28)) = some y6:=(hf 6 _ rfl).trans hy6
  rw [show Try.prog.cellsOf 28 = 1 from by kernel_rfl] at f6
  have g6:=Light.part (P:=Try.prog) Try.underlying31 (i:=6) rfl hy6 hL
  obtain ⟨d6,t6⟩:=(fK (k:=5) (bt:=40) Try.underlying28 (by kernel_rfl) (by kernel_rfl) (by omega) SH) H enc w base sp held n _ _ f6 g6
  obtain ⟨y7,hy7⟩ : ∃ y,xs[7]? = some y:=⟨xs[7]'(by rw [hxl]; simp),by simp⟩
  have f7:DataW.trod enc Try.prog w base sp held n 29 ((List.drop 7 [c0,c1,c2,c3,c4,c5,c6,c7]).take (Try.prog.cellsOf 29)) = some y7:=(hf 7 _ rfl).trans hy7
  rw [show Try.prog.cellsOf 29 = 1 from by kernel_rfl] at f7
  have g7:=Light.part (P:=Try.prog) Try.underlying31 (i:=7) rfl hy7 hL
  obtain ⟨d7,t7⟩:=(fK (k:=3) (bt:=24) Try.underlying29 (by kernel_rfl) (by kernel_rfl) (by omega) SM) H enc w base sp held n _ _ f7 g7
  obtain ⟨u0,e0,q0⟩:=t0
  obtain ⟨u1,e1,q1⟩:=t1
  obtain ⟨u2,e2,q2⟩:=t2
  obtain ⟨u3,e3,q3⟩:=t3
  obtain ⟨u4,e4,q4⟩:=t4
  obtain ⟨u5,e5,q5⟩:=t5
  obtain ⟨u6,e6,q6⟩:=t6
  obtain ⟨u7,e7,q7⟩:=t7
  simp at e0 e1 e2 e3 e4 e5 e6 e7
  exact ⟨⟨d0,d1,d2,d3,d4,d5,d6,d7⟩,u0,u1,u2,u3,u4,u5,u6,u7,by simp [e0,e1,e2,e3,e4,e5,e6,e7],q0,q1,q2,q3,q4,q5,q6,q7⟩
def bR.TV (w:World) (x:bR) (cs:List Value):Prop :=
 cs = [.int .i64 x.Kind,.int .i64 x.N,.int .i64 x.Unit] ∧ (Lit.int .i64 x.Kind).wf = true ∧ (Lit.int .i64 x.N).wf = true ∧ (Lit.int .i64 x.Unit).wf = true
def bR.wf (x:bR):Prop:=pL x.Kind ∧ pL x.N ∧ pL x.Unit
theorem bR.TV_wf (w:World) (x:bR) (cs:List Value) (h:bR.TV w x cs):bR.wf x:=by
 obtain ⟨e,q0,q1,q2⟩:=h
 exact ⟨cF q0,cF q1,cF q2⟩
def bR.fit (x:bR):Prop:=True
theorem bR.TV_fit (w:World) (x:bR) (cs:List Value) (h:bR.TV w x cs):bR.fit x:=by
 obtain ⟨e,q0,q1,q2⟩:=h
 exact trivial
theorem bR.rds:O6 bR.TV bR.cells 3:=fun w x cs h=>by
 obtain ⟨e,q0,q1,q2⟩:=h
 subst e
 exact ⟨gO.cons (.int _ _) rfl (gO.cons (.int _ _) rfl (gO.cons (.int _ _) rfl (gO.nil _))),rfl⟩
theorem RJ:rF Try.prog 33 bR.TV:=fun H enc w base sp held fuel cs x h hL=>by
 obtain ⟨xs,n,hfuel,hxx,hlen,hxl,hf⟩:=DataW.trod_struct Try.underlying33 h
 subst hxx
 have hl:cs.length = 3:=hlen.trans (by kernel_rfl)
 match cs,hl with
 | [c0,c1,c2],_ =>
  obtain ⟨y0,hy0⟩ : ∃ y,xs[0]? = some y:=⟨xs[0]'(by rw [hxl]; simp),by simp⟩
  have f0:DataW.trod enc Try.prog w base sp held n 3 ((List.drop 0 [c0,c1,c2]).take (Try.prog.cellsOf 3)) = some y0:=(hf 0 _ rfl).trans hy0
  rw [show Try.prog.cellsOf 3 = 1 from by kernel_rfl] at f0
  have g0:=Light.part (P:=Try.prog) Try.underlying33 (i:=0) rfl hy0 hL
  obtain ⟨d0,t0⟩:=(bV Try.underlying3) H enc w base sp held n _ _ f0 g0
  obtain ⟨y1,hy1⟩ : ∃ y,xs[1]? = some y:=⟨xs[1]'(by rw [hxl]; simp),by simp⟩
  have f1:DataW.trod enc Try.prog w base sp held n 3 ((List.drop 1 [c0,c1,c2]).take (Try.prog.cellsOf 3)) = some y1:=(hf 1 _ rfl).trans hy1
  rw [show Try.prog.cellsOf 3 = 1 from by kernel_rfl] at f1
  have g1:=Light.part (P:=Try.prog) Try.underlying33 (i:=1) rfl hy1 hL
  obtain ⟨d1,t1⟩:=(bV Try.underlying3) H enc w base sp held n _ _ f1 g1
  obtain ⟨y2,hy2⟩ : ∃ y,xs[2]? = some y:=⟨xs[2]'(by rw [hxl]; simp),by simp⟩
  have f2:DataW.trod enc Try.prog w base sp held n 3 ((List.drop 2 [c0,c1,c2]).take (Try.prog.cellsOf 3)) = some y2:=(hf 2 _ rfl).trans hy2
  rw [show Try.prog.cellsOf 3 = 1 from by kernel_rfl] at f2
  have g2:=Light.part (P:=Try.prog) Try.underlying33 (i:=2) rfl hy2 hL
  obtain ⟨d2,t2⟩:=(bV Try.underlying3) H enc w base sp held n _ _ f2 g2
  obtain ⟨e0,q0⟩:=t0
  obtain ⟨e1,q1⟩:=t1
  obtain ⟨e2,q2⟩:=t2
  simp at e0 e1 e2
  exact ⟨⟨d0,d1,d2⟩,by simp [e0,e1,e2],q0,q1,q2⟩
def bF.TV (w:World) (x:bF) (cs:List Value):Prop :=
 cs = [.int .i64 x.Drawer,.int .i64 x.Drawee,.int .i64 x.Payee,.int .i64 x.Sum,.int .i64 x.Currency,.int .i64 x.Tenor.Kind,.int .i64 x.Tenor.N,.int .i64 x.Tenor.Unit,.int .i64 x.Day,.int .i64 x.City,.int .i64 x.Pay,.int .i64 x.Need,.int .i64 x.Rate,.int .i64 x.Flags,.int .i64 x.Parts] ∧ (Lit.int .i64 x.Drawer).wf = true ∧ (Lit.int .i64 x.Drawee).wf = true ∧ (Lit.int .i64 x.Payee).wf = true ∧ (Lit.int .i64 x.Sum).wf = true ∧ (Lit.int .i64 x.Currency).wf = true ∧ (Lit.int .i64 x.Tenor.Kind).wf = true ∧ (Lit.int .i64 x.Tenor.N).wf = true ∧ (Lit.int .i64 x.Tenor.Unit).wf = true ∧ (Lit.int .i64 x.Day).wf = true ∧ (Lit.int .i64 x.City).wf = true ∧ (Lit.int .i64 x.Pay).wf = true ∧ (Lit.int .i64 x.Need).wf = true ∧ (Lit.int .i64 x.Rate).wf = true ∧ (Lit.int .i64 x.Flags).wf = true ∧ (Lit.int .i64 x.Parts).wf = true
def bF.wf (x:bF):Prop:=pL x.Drawer ∧ pL x.Drawee ∧ pL x.Payee ∧ pL x.Sum ∧ pL x.Currency ∧ bR.wf x.Tenor ∧ pL x.Day ∧ pL x.City ∧ pL x.Pay ∧ pL x.Need ∧ pL x.Rate ∧ pL x.Flags ∧ pL x.Parts
theorem bF.TV_wf (w:World) (x:bF) (cs:List Value) (h:bF.TV w x cs):bF.wf x:=by
 obtain ⟨e,q0,q1,q2,q3,q4,q5,q6,q7,q8,q9,q10,q11,q12,q13,q14⟩:=h
 exact ⟨cF q0,cF q1,cF q2,cF q3,cF q4,⟨cF q5,cF q6,cF q7⟩,cF q8,cF q9,cF q10,cF q11,cF q12,cF q13,cF q14⟩
def bF.fit (x:bF):Prop:=bR.fit x.Tenor
theorem bF.TV_fit (w:World) (x:bF) (cs:List Value) (h:bF.TV w x cs):bF.fit x:=by
 obtain ⟨e,q0,q1,q2,q3,q4,q5,q6,q7,q8,q9,q10,q11,q12,q13,q14⟩:=h
 exact trivial
theorem bF.rds:O6 bF.TV bF.cells 15:=fun w x cs h=>by
 obtain ⟨e,q0,q1,q2,q3,q4,q5,q6,q7,q8,q9,q10,q11,q12,q13,q14⟩:=h
 subst e
 exact ⟨gO.cons (.int _ _) rfl (gO.cons (.int _ _) rfl (gO.cons (.int _ _) rfl (gO.cons (.int _ _) rfl (gO.cons (.int _ _) rfl (gO.cons (.int _ _) rfl (gO.cons (.int _ _) rfl (gO.cons (.int _ _) rfl (gO.cons (.int _ _) rfl (gO.cons (.int _ _) rfl (gO.cons (.int _ _) rfl (gO.cons (.int _ _) rfl (gO.cons (.int _ _) rfl (gO.cons (.int _ _) rfl (gO.cons (.int _ _) rfl (gO.nil _))))))))))))))),rfl⟩
theorem UK:rF Try.prog 35 bF.TV:=fun H enc w base sp held fuel cs x h hL=>by
 obtain ⟨xs,n,hfuel,hxx,hlen,hxl,hf⟩:=DataW.trod_struct Try.underlying35 h
 subst hxx
 have hl:cs.length = 15:=hlen.trans (by kernel_rfl)
 match cs,hl with
 | [c0,c1,c2,c3,c4,c5,c6,c7,c8,c9,c10,c11,c12,c13,c14],_ =>
  obtain ⟨y0,hy0⟩ : ∃ y,xs[0]? = some y:=⟨xs[0]'(by rw [hxl]; simp),by simp⟩
  have f0:DataW.trod enc Try.prog w base sp held n 3 ((List.drop 0 [c0,c1,c2,c3,c4,c5,c6,c7,c8,c9,c10,c11,c12,c13,c14]).take (Try.prog.cellsOf 3)) = some y0:=(hf 0 _ rfl).trans hy0
  rw [show Try.prog.cellsOf 3 = 1 from by kernel_rfl] at f0
  have g0:=Light.part (P:=Try.prog) Try.underlying35 (i:=0) rfl hy0 hL
  obtain ⟨d0,t0⟩:=(bV Try.underlying3) H enc w base sp held n _ _ f0 g0
  obtain ⟨y1,hy1⟩ : ∃ y,xs[1]? = some y:=⟨xs[1]'(by rw [hxl]; simp),by simp⟩
  have f1:DataW.trod enc Try.prog w base sp held n 3 ((List.drop 1 [c0,c1,c2,c3,c4,c5,c6,c7,c8,c9,c10,c11,c12,c13,c14]).take (Try.prog.cellsOf 3)) = some y1:=(hf 1 _ rfl).trans hy1
  rw [show Try.prog.cellsOf 3 = 1 from by kernel_rfl] at f1
  have g1:=Light.part (P:=Try.prog) Try.underlying35 (i:=1) rfl hy1 hL
  obtain ⟨d1,t1⟩:=(bV Try.underlying3) H enc w base sp held n _ _ f1 g1
  obtain ⟨y2,hy2⟩ : ∃ y,xs[2]? = some y:=⟨xs[2]'(by rw [hxl]; simp),by simp⟩
  have f2:DataW.trod enc Try.prog w base sp held n 3 ((List.drop 2 [c0,c1,c2,c3,c4,c5,c6,c7,c8,c9,c10,c11,c12,c13,c14]).take (Try.prog.cellsOf 3)) = some y2:=(hf 2 _ rfl).trans hy2
  rw [show Try.prog.cellsOf 3 = 1 from by kernel_rfl] at f2
  have g2:=Light.part (P:=Try.prog) Try.underlying35 (i:=2) rfl hy2 hL
  obtain ⟨d2,t2⟩:=(bV Try.underlying3) H enc w base sp held n _ _ f2 g2
  obtain ⟨y3,hy3⟩ : ∃ y,xs[3]? = some y:=⟨xs[3]'(by rw [hxl]; simp),by simp⟩
  have f3:DataW.trod enc Try.prog w base sp held n 3 ((List.drop 3 [c0,c1,c2,c3,c4,c5,c6,c7,c8,c9,c10,c11,c12,c13,c14]).take (Try.prog.cellsOf 3)) = some y3:=(hf 3 _ rfl).trans hy3
  rw [show Try.prog.cellsOf 3 = 1 from by kernel_rfl] at f3
  have g3:=Light.part (P:=Try.prog) Try.underlying35 (i:=3) rfl hy3 hL
  obtain ⟨d3,t3⟩:=(bV Try.underlying3) H enc w base sp held n _ _ f3 g3
  obtain ⟨y4,hy4⟩ : ∃ y,xs[4]? = some y:=⟨xs[4]'(by rw [hxl]; simp),by simp⟩
  have f4:DataW.trod enc Try.prog w base sp held n 3 ((List.drop 4 [c0,c1,c2,c3,c4,c5,c6,c7,c8,c9,c10,c11,c12,c13,c14]).take (Try.prog.cellsOf 3)) = some y4:=(hf 4 _ rfl).trans hy4
  rw [show Try.prog.cellsOf 3 = 1 from by kernel_rfl] at f4
  have g4:=Light.part (P:=Try.prog) Try.underlying35 (i:=4) rfl hy4 hL
  obtain ⟨d4,t4⟩:=(bV Try.underlying3) H enc w base sp held n _ _ f4 g4
  obtain ⟨y5,hy5⟩ : ∃ y,xs[5]? = some y:=⟨xs[5]'(by rw [hxl]; simp),by simp⟩
  have f5:DataW.trod enc Try.prog w base sp held n 33 ((List.drop 5 [c0,c1,c2,c3,c4,c5,c6,c7,c8,c9,c10,c11,c12,c13,c14]).take (Try.prog.cellsOf 33)) = some y5:=(hf 5 _ rfl).trans hy5
  rw [show Try.prog.cellsOf 33 = 3 from by kernel_rfl] at f5
  have g5:=Light.part (P:=Try.prog) Try.underlying35 (i:=5) rfl hy5 hL
  obtain ⟨d5,t5⟩:=RJ H enc w base sp held n _ _ f5 g5
  obtain ⟨y6,hy6⟩ : ∃ y,xs[6]? = some y:=⟨xs[6]'(by rw [hxl]; simp),by simp⟩
  have f6:DataW.trod enc Try.prog w base sp held n 3 ((List.drop 8 [c0,c1,c2,c3,c4,c5,c6,c7,c8,c9,c10,c11,c12,c13,c14]).take (Try.prog.cellsOf 3)) = some y6:=(hf 6 _ rfl).trans hy6
  rw [show Try.prog.cellsOf 3 = 1 from by kernel_rfl] at f6
  have g6:=Light.part (P:=Try.prog) Try.underlying35 (i:=6) rfl hy6 hL
  obtain ⟨d6,t6⟩:=(bV Try.underlying3) H enc w base sp held n _ _ f6 g6
  obtain ⟨y7,hy7⟩ : ∃ y,xs[7]? = some y:=⟨xs[7]'(by rw [hxl]; simp),by simp⟩
  have f7:DataW.trod enc Try.prog w base sp held n 3 ((List.drop 9 [c0,c1,c2,c3,c4,c5,c6,c7,c8,c9,c10,c11,c12,c13,c14]).take (Try.prog.cellsOf 3)) = some y7:=(hf 7 _ rfl).trans hy7
  rw [show Try.prog.cellsOf 3 = 1 from by kernel_rfl] at f7
  have g7:=Light.part (P:=Try.prog) Try.underlying35 (i:=7) rfl hy7 hL
  obtain ⟨d7,t7⟩:=(bV Try.underlying3) H enc w base sp held n _ _ f7 g7
  obtain ⟨y8,hy8⟩ : ∃ y,xs[8]? = some y:=⟨xs[8]'(by rw [hxl]; simp),by simp⟩
  have f8:DataW.trod enc Try.prog w base sp held n 3 ((List.drop 10 [c0,c1,c2,c3,c4,c5,c6,c7,c8,c9,c10,c11,c12,c13,c14]).take (Try.prog.cellsOf 3)) = some y8:=(hf 8 _ rfl).trans hy8
  rw [show Try.prog.cellsOf 3 = 1 from by kernel_rfl] at f8
  have g8:=Light.part (P:=Try.prog) Try.underlying35 (i:=8) rfl hy8 hL
  obtain ⟨d8,t8⟩:=(bV Try.underlying3) H enc w base sp held n _ _ f8 g8
  obtain ⟨y9,hy9⟩ : ∃ y,xs[9]? = some y:=⟨xs[9]'(by rw [hxl]; simp),by simp⟩
  have f9:DataW.trod enc Try.prog w base sp held n 3 ((List.drop 11 [c0,c1,c2,c3,c4,c5,c6,c7,c8,c9,c10,c11,c12,c13,c14]).take (Try.prog.cellsOf 3)) = some y9:=(hf 9 _ rfl).trans hy9
  rw [show Try.prog.cellsOf 3 = 1 from by kernel_rfl] at f9
  have g9:=Light.part (P:=Try.prog) Try.underlying35 (i:=9) rfl hy9 hL
  obtain ⟨d9,t9⟩:=(bV Try.underlying3) H enc w base sp held n _ _ f9 g9
  obtain ⟨y10,hy10⟩ : ∃ y,xs[10]? = some y:=⟨xs[10]'(by rw [hxl]; simp),by simp⟩
  have f10:DataW.trod enc Try.prog w base sp held n 3 ((List.drop 12 [c0,c1,c2,c3,c4,c5,c6,c7,c8,c9,c10,c11,c12,c13,c14]).take (Try.prog.cellsOf 3)) = some y10:=(hf 10 _ rfl).trans hy10
  rw [show Try.prog.cellsOf 3 = 1 from by kernel_rfl] at f10
  have g10:=Light.part (P:=Try.prog) Try.underlying35 (i:=10) rfl hy10 hL
  obtain ⟨d10,t10⟩:=(bV Try.underlying3) H enc w base sp held n _ _ f10 g10
  obtain ⟨y11,hy11⟩ : ∃ y,xs[11]? = some y:=⟨xs[11]'(by rw [hxl]; simp),by simp⟩
  have f11:DataW.trod enc Try.prog w base sp held n 3 ((List.drop 13 [c0,c1,c2,c3,c4,c5,c6,c7,c8,c9,c10,c11,c12,c13,c14]).take (Try.prog.cellsOf 3)) = some y11:=(hf 11 _ rfl).trans hy11
  rw [show Try.prog.cellsOf 3 = 1 from by kernel_rfl] at f11
  have g11:=Light.part (P:=Try.prog) Try.underlying35 (i:=11) rfl hy11 hL
  obtain ⟨d11,t11⟩:=(bV Try.underlying3) H enc w base sp held n _ _ f11 g11
  obtain ⟨y12,hy12⟩ : ∃ y,xs[12]? = some y:=⟨xs[12]'(by rw [hxl]; simp),by simp⟩
  have f12:DataW.trod enc Try.prog w base sp held n 3 ((List.drop 14 [c0,c1,c2,c3,c4,c5,c6,c7,c8,c9,c10,c11,c12,c13,c14]).take (Try.prog.cellsOf 3)) = some y12:=(hf 12 _ rfl).trans hy12
  rw [show Try.prog.cellsOf 3 = 1 from by kernel_rfl] at f12
  have g12:=Light.part (P:=Try.prog) Try.underlying35 (i:=12) rfl hy12 hL
  obtain ⟨d12,t12⟩:=(bV Try.underlying3) H enc w base sp held n _ _ f12 g12
  obtain ⟨e0,q0⟩:=t0
  obtain ⟨e1,q1⟩:=t1
  obtain ⟨e2,q2⟩:=t2
  obtain ⟨e3,q3⟩:=t3
  obtain ⟨e4,q4⟩:=t4
  obtain ⟨e5,q5_0,q5_1,q5_2⟩:=t5
  obtain ⟨e6,q6⟩:=t6
  obtain ⟨e7,q7⟩:=t7
  obtain ⟨e8,q8⟩:=t8
  obtain ⟨e9,q9⟩:=t9
  obtain ⟨e10,q10⟩:=t10
  obtain ⟨e11,q11⟩:=t11
  obtain ⟨e12,q12⟩:=t12
  simp at e0 e1 e2 e3 e4 e5 e6 e7 e8 e9 e10 e11 e12
  exact ⟨⟨d0,d1,d2,d3,d4,d5,d6,d7,d8,d9,d10,d11,d12⟩,by simp [e0,e1,e2,e3,e4,e5,e6,e7,e8,e9,e10,e11,e12],q0,q1,q2,q3,q4,q5_0,q5_1,q5_2,q6,q7,q8,q9,q10,q11,q12⟩
def aX.TV (w:World) (x:aX) (cs:List Value):Prop :=
 cs = [.int .i64 x.Kind,.int .i64 x.Part,.int .i64 x.Who,.int .i64 x.For,.int .i64 x.To,.int .i64 x.Sum,.int .i64 x.Day,.int .i64 x.City,.int .i64 x.Flags] ∧ (Lit.int .i64 x.Kind).wf = true ∧ (Lit.int .i64 x.Part).wf = true ∧ (Lit.int .i64 x.Who).wf = true ∧ (Lit.int .i64 x.For).wf = true ∧ (Lit.int .i64 x.To).wf = true ∧ (Lit.int .i64 x.Sum).wf = true ∧ (Lit.int .i64 x.Day).wf = true ∧ (Lit.int .i64 x.City).wf = true ∧ (Lit.int .i64 x.Flags).wf = true
def aX.wf (x:aX):Prop:=pL x.Kind ∧ pL x.Part ∧ pL x.Who ∧ pL x.For ∧ pL x.To ∧ pL x.Sum ∧ pL x.Day ∧ pL x.City ∧ pL x.Flags
theorem aX.TV_wf (w:World) (x:aX) (cs:List Value) (h:aX.TV w x cs):aX.wf x:=by
 obtain ⟨e,q0,q1,q2,q3,q4,q5,q6,q7,q8⟩:=h
 exact ⟨cF q0,cF q1,cF q2,cF q3,cF q4,cF q5,cF q6,cF q7,cF q8⟩
def aX.fit (x:aX):Prop:=True
theorem aX.TV_fit (w:World) (x:aX) (cs:List Value) (h:aX.TV w x cs):aX.fit x:=by
 obtain ⟨e,q0,q1,q2,q3,q4,q5,q6,q7,q8⟩:=h
 exact trivial
theorem aX.rds:O6 aX.TV aX.cells 9:=fun w x cs h=>by
 obtain ⟨e,q0,q1,q2,q3,q4,q5,q6,q7,q8⟩:=h
 subst e
 exact ⟨gO.cons (.int _ _) rfl (gO.cons (.int _ _) rfl (gO.cons (.int _ _) rfl (gO.cons (.int _ _) rfl (gO.cons (.int _ _) rfl (gO.cons (.int _ _) rfl (gO.cons (.int _ _) rfl (gO.cons (.int _ _) rfl (gO.cons (.int _ _) rfl (gO.nil _))))))))),rfl⟩
theorem LZ:rF Try.prog 66 aX.TV:=fun H enc w base sp held fuel cs x h hL=>by
 obtain ⟨xs,n,hfuel,hxx,hlen,hxl,hf⟩:=DataW.trod_struct Try.underlying66 h
 subst hxx
 have hl:cs.length = 9:=hlen.trans (by kernel_rfl)
 match cs,hl with
 | [c0,c1,c2,c3,c4,c5,c6,c7,c8],_ =>
  obtain ⟨y0,hy0⟩ : ∃ y,xs[0]? = some y:=⟨xs[0]'(by rw [hxl]; simp),by simp⟩
  have f0:DataW.trod enc Try.prog w base sp held n 3 ((List.drop 0 [c0,c1,c2,c3,c4,c5,c6,c7,c8]).take (Try.prog.cellsOf 3)) = some y0:=(hf 0 _ rfl).trans hy0
  rw [show Try.prog.cellsOf 3 = 1 from by kernel_rfl] at f0
  have g0:=Light.part (P:=Try.prog) Try.underlying66 (i:=0) rfl hy0 hL
  obtain ⟨d0,t0⟩:=(bV Try.underlying3) H enc w base sp held n _ _ f0 g0
  obtain ⟨y1,hy1⟩ : ∃ y,xs[1]? = some y:=⟨xs[1]'(by rw [hxl]; simp),by simp⟩
  have f1:DataW.trod enc Try.prog w base sp held n 3 ((List.drop 1 [c0,c1,c2,c3,c4,c5,c6,c7,c8]).take (Try.prog.cellsOf 3)) = some y1:=(hf 1 _ rfl).trans hy1
  rw [show Try.prog.cellsOf 3 = 1 from by kernel_rfl] at f1
  have g1:=Light.part (P:=Try.prog) Try.underlying66 (i:=1) rfl hy1 hL
  obtain ⟨d1,t1⟩:=(bV Try.underlying3) H enc w base sp held n _ _ f1 g1
  obtain ⟨y2,hy2⟩ : ∃ y,xs[2]? = some y:=⟨xs[2]'(by rw [hxl]; simp),by simp⟩
  have f2:DataW.trod enc Try.prog w base sp held n 3 ((List.drop 2 [c0,c1,c2,c3,c4,c5,c6,c7,c8]).take (Try.prog.cellsOf 3)) = some y2:=(hf 2 _ rfl).trans hy2
  rw [show Try.prog.cellsOf 3 = 1 from by kernel_rfl] at f2
  have g2:=Light.part (P:=Try.prog) Try.underlying66 (i:=2) rfl hy2 hL
  obtain ⟨d2,t2⟩:=(bV Try.underlying3) H enc w base sp held n _ _ f2 g2
  obtain ⟨y3,hy3⟩ : ∃ y,xs[3]? = some y:=⟨xs[3]'(by rw [hxl]; simp),by simp⟩
  have f3:DataW.trod enc Try.prog w base sp held n 3 ((List.drop 3 [c0,c1,c2,c3,c4,c5,c6,c7,c8]).take (Try.prog.cellsOf 3)) = some y3:=(hf 3 _ rfl).trans hy3
  rw [show Try.prog.cellsOf 3 = 1 from by kernel_rfl] at f3
  have g3:=Light.part (P:=Try.prog) Try.underlying66 (i:=3) rfl hy3 hL
  obtain ⟨d3,t3⟩:=(bV Try.underlying3) H enc w base sp held n _ _ f3 g3
  obtain ⟨y4,hy4⟩ : ∃ y,xs[4]? = some y:=⟨xs[4]'(by rw [hxl]; simp),by simp⟩
  have f4:DataW.trod enc Try.prog w base sp held n 3 ((List.drop 4 [c0,c1,c2,c3,c4,c5,c6,c7,c8]).take (Try.prog.cellsOf 3)) = some y4:=(hf 4 _ rfl).trans hy4
  rw [show Try.prog.cellsOf 3 = 1 from by kernel_rfl] at f4
  have g4:=Light.part (P:=Try.prog) Try.underlying66 (i:=4) rfl hy4 hL
  obtain ⟨d4,t4⟩:=(bV Try.underlying3) H enc w base sp held n _ _ f4 g4
  obtain ⟨y5,hy5⟩ : ∃ y,xs[5]? = some y:=⟨xs[5]'(by rw [hxl]; simp),by simp⟩
  have f5:DataW.trod enc Try.prog w base sp held n 3 ((List.drop 5 [c0,c1,c2,c3,c4,c5,c6,c7,c8]).take (Try.prog.cellsOf 3)) = some y5:=(hf 5 _ rfl).trans hy5
  rw [show Try.prog.cellsOf 3 = 1 from by kernel_rfl] at f5
  have g5:=Light.part (P:=Try.prog) Try.underlying66 (i:=5) rfl hy5 hL
  obtain ⟨d5,t5⟩:=(bV Try.underlying3) H enc w base sp held n _ _ f5 g5
  obtain ⟨y6,hy6⟩ : ∃ y,xs[6]? = some y:=⟨xs[6]'(by rw [hxl]; simp),by simp⟩
  have f6:DataW.trod enc Try.prog w base sp held n 3 ((List.drop 6 [c0,c1,c2,c3,c4,c5,c6,c7,c8]).take (Try.prog.cellsOf 3)) = some y6:=(hf 6 _ rfl).trans hy6
  rw [show Try.prog.cellsOf 3 = 1 from by kernel_rfl] at f6
  have g6:=Light.part (P:=Try.prog) Try.underlying66 (i:=6) rfl hy6 hL
  obtain ⟨d6,t6⟩:=(bV Try.underlying3) H enc w base sp held n _ _ f6 g6
  obtain ⟨y7,hy7⟩ : ∃ y,xs[7]? = some y:=⟨xs[7]'(by rw [hxl]; simp),by simp⟩
  have f7:DataW.trod enc Try.prog w base sp held n 3 ((List.drop 7 [c0,c1,c2,c3,c4,c5,c6,c7,c8]).take (Try.prog.cellsOf 3)) = some y7:=(hf 7 _ rfl).trans hy7
  rw [show Try.prog.cellsOf 3 = 1 from by kernel_rfl] at f7
  have g7:=Light.part (P:=Try.prog) Try.underlying66 (i:=7) rfl hy7 hL
  obtain ⟨d7,t7⟩:=(bV Try.underlying3) H enc w base sp held n _ _ f7 g7
  obtain ⟨y8,hy8⟩ : ∃ y,xs[8]? = some y:=⟨xs[8]'(by rw [hxl]; simp),by simp⟩
  have f8:DataW.trod enc Try.prog w base sp held n 3 ((List.drop 8 [c0,c1,c2,c3,c4,c5,c6,c7,c8]).take (Try.prog.cellsOf 3)) = some y8:=(hf 8 _ rfl).trans hy8
  rw [show Try.prog.cellsOf 3 = 1 from by kernel_rfl] at f8
  have g8:=Light.part (P:=Try.prog) Try.underlying66 (i:=8) rfl hy8 hL
  obtain ⟨d8,t8⟩:=(bV Try.underlying3) H enc w base sp held n _ _ f8 g8
  obtain ⟨e0,q0⟩:=t0
  obtain ⟨e1,q1⟩:=t1
  obtain ⟨e2,q2⟩:=t2
  obtain ⟨e3,q3⟩:=t3
  obtain ⟨e4,q4⟩:=t4
  obtain ⟨e5,q5⟩:=t5
  obtain ⟨e6,q6⟩:=t6
  obtain ⟨e7,q7⟩:=t7
  obtain ⟨e8,q8⟩:=t8
  simp at e0 e1 e2 e3 e4 e5 e6 e7 e8
  exact ⟨⟨d0,d1,d2,d3,d4,d5,d6,d7,d8⟩,by simp [e0,e1,e2,e3,e4,e5,e6,e7,e8],q0,q1,q2,q3,q4,q5,q6,q7,q8⟩
def bE.TV (w:World) (x:bE) (cs:List Value):Prop :=
 cs = [.int .i64 x.At,.int .i64 x.Sum] ∧ (Lit.int .i64 x.At).wf = true ∧ (Lit.int .i64 x.Sum).wf = true
def bE.wf (x:bE):Prop:=pL x.At ∧ pL x.Sum
theorem bE.TV_wf (w:World) (x:bE) (cs:List Value) (h:bE.TV w x cs):bE.wf x:=by
 obtain ⟨e,q0,q1⟩:=h
 exact ⟨cF q0,cF q1⟩
def bE.fit (x:bE):Prop:=True
theorem bE.TV_fit (w:World) (x:bE) (cs:List Value) (h:bE.TV w x cs):bE.fit x:=by
 obtain ⟨e,q0,q1⟩:=h
 exact trivial
theorem bE.rds:O6 bE.TV bE.cells 2:=fun w x cs h=>by
 obtain ⟨e,q0,q1⟩:=h
 subst e
 exact ⟨gO.cons (.int _ _) rfl (gO.cons (.int _ _) rfl (gO.nil _)),rfl⟩
theorem Q8:rF Try.prog 72 bE.TV:=fun H enc w base sp held fuel cs x h hL=>by
 obtain ⟨xs,n,hfuel,hxx,hlen,hxl,hf⟩:=DataW.trod_struct Try.underlying72 h
 subst hxx
 have hl:cs.length = 2:=hlen.trans (by kernel_rfl)
 match cs,hl with
 | [c0,c1],_ =>
  obtain ⟨y0,hy0⟩ : ∃ y,xs[0]? = some y:=⟨xs[0]'(by rw [hxl]; simp),by simp⟩
  have f0:DataW.trod enc Try.prog w base sp held n 3 ((List.drop 0 [c0,c1]).take (Try.prog.cellsOf 3)) = some y0:=(hf 0 _ rfl).trans hy0
  rw [show Try.prog.cellsOf 3 = 1 from by kernel_rfl] at f0
  have g0:=Light.part (P:=Try.prog) Try.underlying72 (i:=0) rfl hy0 hL
  obtain ⟨d0,t0⟩:=(bV Try.underlying3) H enc w base sp held n _ _ f0 g0
  obtain ⟨y1,hy1⟩ : ∃ y,xs[1]? = some y:=⟨xs[1]'(by rw [hxl]; simp),by simp⟩
  have f1:DataW.trod enc Try.prog w base sp held n 3 ((List.drop 1 [c0,c1]).take (Try.prog.cellsOf 3)) = some y1:=(hf 1 _ rfl).trans hy1
  rw [show Try.prog.cellsOf 3 = 1 from by kernel_rfl] at f1
  have g1:=Light.part (P:=Try.prog) Try.underlying72 (i:=1) rfl hy1 hL
  obtain ⟨d1,t1⟩:=(bV Try.underlying3) H enc w base sp held n _ _ f1 g1
  obtain ⟨e0,q0⟩:=t0
  obtain ⟨e1,q1⟩:=t1
  simp at e0 e1
  exact ⟨⟨d0,d1⟩,by simp [e0,e1],q0,q1⟩
def bP.TV (w:World) (x:bP) (cs:List Value):Prop :=
 cs = [.int .i64 x.Kind,.int .i64 x.Who,.int .i64 x.To,.int .i64 x.Part,.int .i64 x.At,.int .i64 x.Sum,.int .i64 x.Day,.int .i64 x.City,.int .i64 x.Form] ∧ (Lit.int .i64 x.Kind).wf = true ∧ (Lit.int .i64 x.Who).wf = true ∧ (Lit.int .i64 x.To).wf = true ∧ (Lit.int .i64 x.Part).wf = true ∧ (Lit.int .i64 x.At).wf = true ∧ (Lit.int .i64 x.Sum).wf = true ∧ (Lit.int .i64 x.Day).wf = true ∧ (Lit.int .i64 x.City).wf = true ∧ (Lit.int .i64 x.Form).wf = true
def bP.wf (x:bP):Prop:=pL x.Kind ∧ pL x.Who ∧ pL x.To ∧ pL x.Part ∧ pL x.At ∧ pL x.Sum ∧ pL x.Day ∧ pL x.City ∧ pL x.Form
theorem bP.TV_wf (w:World) (x:bP) (cs:List Value) (h:bP.TV w x cs):bP.wf x:=by
 obtain ⟨e,q0,q1,q2,q3,q4,q5,q6,q7,q8⟩:=h
 exact ⟨cF q0,cF q1,cF q2,cF q3,cF q4,cF q5,cF q6,cF q7,cF q8⟩
def bP.fit (x:bP):Prop:=True
theorem bP.TV_fit (w:World) (x:bP) (cs:List Value) (h:bP.TV w x cs):bP.fit x:=by
 obtain ⟨e,q0,q1,q2,q3,q4,q5,q6,q7,q8⟩:=h
 exact trivial
theorem bP.rds:O6 bP.TV bP.cells 9:=fun w x cs h=>by
 obtain ⟨e,q0,q1,q2,q3,q4,q5,q6,q7,q8⟩:=h
 subst e
 exact ⟨gO.cons (.int _ _) rfl (gO.cons (.int _ _) rfl (gO.cons (.int _ _) rfl (gO.cons (.int _ _) rfl (gO.cons (.int _ _) rfl (gO.cons (.int _ _) rfl (gO.cons (.int _ _) rfl (gO.cons (.int _ _) rfl (gO.cons (.int _ _) rfl (gO.nil _))))))))),rfl⟩
theorem YJ:rF Try.prog 81 bP.TV:=fun H enc w base sp held fuel cs x h hL=>by
 obtain ⟨xs,n,hfuel,hxx,hlen,hxl,hf⟩:=DataW.trod_struct Try.underlying81 h
 subst hxx
 have hl:cs.length = 9:=hlen.trans (by kernel_rfl)
 match cs,hl with
 | [c0,c1,c2,c3,c4,c5,c6,c7,c8],_ =>
  obtain ⟨y0,hy0⟩ : ∃ y,xs[0]? = some y:=⟨xs[0]'(by rw [hxl]; simp),by simp⟩
  have f0:DataW.trod enc Try.prog w base sp held n 3 ((List.drop 0 [c0,c1,c2,c3,c4,c5,c6,c7,c8]).take (Try.prog.cellsOf 3)) = some y0:=(hf 0 _ rfl).trans hy0
  rw [show Try.prog.cellsOf 3 = 1 from by kernel_rfl] at f0
  have g0:=Light.part (P:=Try.prog) Try.underlying81 (i:=0) rfl hy0 hL
  obtain ⟨d0,t0⟩:=(bV Try.underlying3) H enc w base sp held n _ _ f0 g0
  obtain ⟨y1,hy1⟩ : ∃ y,xs[1]? = some y:=⟨xs[1]'(by rw [hxl]; simp),by simp⟩
  have f1:DataW.trod enc Try.prog w base sp held n 3 ((List.drop 1 [c0,c1,c2,c3,c4,c5,c6,c7,c8]).take (Try.prog.cellsOf 3)) = some y1:=(hf 1 _ rfl).trans hy1
  rw [show Try.prog.cellsOf 3 = 1 from by kernel_rfl] at f1
  have g1:=Light.part (P:=Try.prog) Try.underlying81 (i:=1) rfl hy1 hL
  obtain ⟨d1,t1⟩:=(bV Try.underlying3) H enc w base sp held n _ _ f1 g1
  obtain ⟨y2,hy2⟩ : ∃ y,xs[2]? = some y:=⟨xs[2]'(by rw [hxl]; simp),by simp⟩
  have f2:DataW.trod enc Try.prog w base sp held n 3 ((List.drop 2 [c0,c1,c2,c3,c4,c5,c6,c7,c8]).take (Try.prog.cellsOf 3)) = some y2:=(hf 2 _ rfl).trans hy2
  rw [show Try.prog.cellsOf 3 = 1 from by kernel_rfl] at f2
  have g2:=Light.part (P:=Try.prog) Try.underlying81 (i:=2) rfl hy2 hL
  obtain ⟨d2,t2⟩:=(bV Try.underlying3) H enc w base sp held n _ _ f2 g2
  obtain ⟨y3,hy3⟩ : ∃ y,xs[3]? = some y:=⟨xs[3]'(by rw [hxl]; simp),by simp⟩
  have f3:DataW.trod enc Try.prog w base sp held n 3 ((List.drop 3 [c0,c1,c2,c3,c4,c5,c6,c7,c8]).take (Try.prog.cellsOf 3)) = some y3:=(hf 3 _ rfl).trans hy3
  rw [show Try.prog.cellsOf 3 = 1 from by kernel_rfl] at f3
  have g3:=Light.part (P:=Try.prog) Try.underlying81 (i:=3) rfl hy3 hL
  obtain ⟨d3,t3⟩:=(bV Try.underlying3) H enc w base sp held n _ _ f3 g3
  obtain ⟨y4,hy4⟩ : ∃ y,xs[4]? = some y:=⟨xs[4]'(by rw [hxl]; simp),by simp⟩
  have f4:DataW.trod enc Try.prog w base sp held n 3 ((List.drop 4 [c0,c1,c2,c3,c4,c5,c6,c7,c8]).take (Try.prog.cellsOf 3)) = some y4:=(hf 4 _ rfl).trans hy4
  rw [show Try.prog.cellsOf 3 = 1 from by kernel_rfl] at f4
  have g4:=Light.part (P:=Try.prog) Try.underlying81 (i:=4) rfl hy4 hL
  obtain ⟨d4,t4⟩:=(bV Try.underlying3) H enc w base sp held n _ _ f4 g4
  obtain ⟨y5,hy5⟩ : ∃ y,xs[5]? = some y:=⟨xs[5]'(by rw [hxl]; simp),by simp⟩
  have f5:DataW.trod enc Try.prog w base sp held n 3 ((List.drop 5 [c0,c1,c2,c3,c4,c5,c6,c7,c8]).take (Try.prog.cellsOf 3)) = some y5:=(hf 5 _ rfl).trans hy5
  rw [show Try.prog.cellsOf 3 = 1 from by kernel_rfl] at f5
  have g5:=Light.part (P:=Try.prog) Try.underlying81 (i:=5) rfl hy5 hL
  obtain ⟨d5,t5⟩:=(bV Try.underlying3) H enc w base sp held n _ _ f5 g5
  obtain ⟨y6,hy6⟩ : ∃ y,xs[6]? = some y:=⟨xs[6]'(by rw [hxl]; simp),by simp⟩
  have f6:DataW.trod enc Try.prog w base sp held n 3 ((List.drop 6 [c0,c1,c2,c3,c4,c5,c6,c7,c8]).take (Try.prog.cellsOf 3)) = some y6:=(hf 6 _ rfl).trans hy6
  rw [show Try.prog.cellsOf 3 = 1 from by kernel_rfl] at f6
  have g6:=Light.part (P:=Try.prog) Try.underlying81 (i:=6) rfl hy6 hL
  obtain ⟨d6,t6⟩:=(bV Try.underlying3) H enc w base sp held n _ _ f6 g6
  obtain ⟨y7,hy7⟩ : ∃ y,xs[7]? = some y:=⟨xs[7]'(by rw [hxl]; simp),by simp⟩
  have f7:DataW.trod enc Try.prog w base sp held n 3 ((List.drop 7 [c0,c1,c2,c3,c4,c5,c6,c7,c8]).take (Try.prog.cellsOf 3)) = some y7:=(hf 7 _ rfl).trans hy7
  rw [show Try.prog.cellsOf 3 = 1 from by kernel_rfl] at f7
  have g7:=Light.part (P:=Try.prog) Try.underlying81 (i:=7) rfl hy7 hL
  obtain ⟨d7,t7⟩:=(bV Try.underlying3) H enc w base sp held n _ _ f7 g7
  obtain ⟨y8,hy8⟩ : ∃ y,xs[8]? = some y:=⟨xs[8]'(by rw [hxl]; simp),by simp⟩
  have f8:DataW.trod enc Try.prog w base sp held n 3 ((List.drop 8 [c0,c1,c2,c3,c4,c5,c6,c7,c8]).take (Try.prog.cellsOf 3)) = some y8:=(hf 8 _ rfl).trans hy8
  rw [show Try.prog.cellsOf 3 = 1 from by kernel_rfl] at f8
  have g8:=Light.part (P:=Try.prog) Try.underlying81 (i:=8) rfl hy8 hL
  obtain ⟨d8,t8⟩:=(bV Try.underlying3) H enc w base sp held n _ _ f8 g8
  obtain ⟨e0,q0⟩:=t0
  obtain ⟨e1,q1⟩:=t1
  obtain ⟨e2,q2⟩:=t2
  obtain ⟨e3,q3⟩:=t3
  obtain ⟨e4,q4⟩:=t4
  obtain ⟨e5,q5⟩:=t5
  obtain ⟨e6,q6⟩:=t6
  obtain ⟨e7,q7⟩:=t7
  obtain ⟨e8,q8⟩:=t8
  simp at e0 e1 e2 e3 e4 e5 e6 e7 e8
  exact ⟨⟨d0,d1,d2,d3,d4,d5,d6,d7,d8⟩,by simp [e0,e1,e2,e3,e4,e5,e6,e7,e8],q0,q1,q2,q3,q4,q5,q6,q7,q8⟩
def bS.TV (w:World) (x:bS) (cs:List Value):Prop :=
 cs = [.int .i64 x.Kind,.int .i64 x.At,.int .i64 x.N] ∧ (Lit.int .i64 x.Kind).wf = true ∧ (Lit.int .i64 x.At).wf = true ∧ (Lit.int .i64 x.N).wf = true
def bS.wf (x:bS):Prop:=pL x.Kind ∧ pL x.At ∧ pL x.N
theorem bS.TV_wf (w:World) (x:bS) (cs:List Value) (h:bS.TV w x cs):bS.wf x:=by
 obtain ⟨e,q0,q1,q2⟩:=h
 exact ⟨cF q0,cF q1,cF q2⟩
def bS.fit (x:bS):Prop:=True
theorem bS.TV_fit (w:World) (x:bS) (cs:List Value) (h:bS.TV w x cs):bS.fit x:=by
 obtain ⟨e,q0,q1,q2⟩:=h
 exact trivial
theorem bS.rds:O6 bS.TV bS.cells 3:=fun w x cs h=>by
 obtain ⟨e,q0,q1,q2⟩:=h
 subst e
 exact ⟨gO.cons (.int _ _) rfl (gO.cons (.int _ _) rfl (gO.cons (.int _ _) rfl (gO.nil _))),rfl⟩
theorem UC:rF Try.prog 58 bS.TV:=fun H enc w base sp held fuel cs x h hL=>by
 obtain ⟨xs,n,hfuel,hxx,hlen,hxl,hf⟩:=DataW.trod_struct Try.underlying58 h
 subst hxx
 have hl:cs.length = 3:=hlen.trans (by kernel_rfl)
 match cs,hl with
 | [c0,c1,c2],_ =>
  obtain ⟨y0,hy0⟩ : ∃ y,xs[0]? = some y:=⟨xs[0]'(by rw [hxl]; simp),by simp⟩
  have f0:DataW.trod enc Try.prog w base sp held n 3 ((List.drop 0 [c0,c1,c2]).take (Try.prog.cellsOf 3)) = some y0:=(hf 0 _ rfl).trans hy0
  rw [show Try.prog.cellsOf 3 = 1 from by kernel_rfl] at f0
  have g0:=Light.part (P:=Try.prog) Try.underlying58 (i:=0) rfl hy0 hL
  obtain ⟨d0,t0⟩:=(bV Try.underlying3) H enc w base sp held n _ _ f0 g0
  obtain ⟨y1,hy1⟩ : ∃ y,xs[1]? = some y:=⟨xs[1]'(by rw [hxl]; simp),by simp⟩
  have f1:DataW.trod enc Try.prog w base sp held n 3 ((List.drop 1 [c0,c1,c2]).take (Try.prog.cellsOf 3)) = some y1:=(hf 1 _ rfl).trans hy1
  rw [show Try.prog.cellsOf 3 = 1 from by kernel_rfl] at f1
  have g1:=Light.part (P:=Try.prog) Try.underlying58 (i:=1) rfl hy1 hL
  obtain ⟨d1,t1⟩:=(bV Try.underlying3) H enc w base sp held n _ _ f1 g1
  obtain ⟨y2,hy2⟩ : ∃ y,xs[2]? = some y:=⟨xs[2]'(by rw [hxl]; simp),by simp⟩
  have f2:DataW.trod enc Try.prog w base sp held n 3 ((List.drop 2 [c0,c1,c2]).take (Try.prog.cellsOf 3)) = some y2:=(hf 2 _ rfl).trans hy2
  rw [show Try.prog.cellsOf 3 = 1 from by kernel_rfl] at f2
  have g2:=Light.part (P:=Try.prog) Try.underlying58 (i:=2) rfl hy2 hL
  obtain ⟨d2,t2⟩:=(bV Try.underlying3) H enc w base sp held n _ _ f2 g2
  obtain ⟨e0,q0⟩:=t0
  obtain ⟨e1,q1⟩:=t1
  obtain ⟨e2,q2⟩:=t2
  simp at e0 e1 e2
  exact ⟨⟨d0,d1,d2⟩,by simp [e0,e1,e2],q0,q1,q2⟩
def aB.TV (w:World) (x:aB) (cs:List Value):Prop :=
 ∃ v0 v1 v2 v3:Value,cs = [.int .i64 x.Bill.Drawer,.int .i64 x.Bill.Drawee,.int .i64 x.Bill.Payee,.int .i64 x.Bill.Sum,.int .i64 x.Bill.Currency,.int .i64 x.Bill.Tenor.Kind,.int .i64 x.Bill.Tenor.N,.int .i64 x.Bill.Tenor.Unit,.int .i64 x.Bill.Day,.int .i64 x.Bill.City,.int .i64 x.Bill.Pay,.int .i64 x.Bill.Need,.int .i64 x.Bill.Rate,.int .i64 x.Bill.Flags,.int .i64 x.Bill.Parts,v0,v1,v2,v3] ∧ (Lit.int .i64 x.Bill.Drawer).wf = true ∧ (Lit.int .i64 x.Bill.Drawee).wf = true ∧ (Lit.int .i64 x.Bill.Payee).wf = true ∧ (Lit.int .i64 x.Bill.Sum).wf = true ∧ (Lit.int .i64 x.Bill.Currency).wf = true ∧ (Lit.int .i64 x.Bill.Tenor.Kind).wf = true ∧ (Lit.int .i64 x.Bill.Tenor.N).wf = true ∧ (Lit.int .i64 x.Bill.Tenor.Unit).wf = true ∧ (Lit.int .i64 x.Bill.Day).wf = true ∧ (Lit.int .i64 x.Bill.City).wf = true ∧ (Lit.int .i64 x.Bill.Pay).wf = true ∧ (Lit.int .i64 x.Bill.Need).wf = true ∧ (Lit.int .i64 x.Bill.Rate).wf = true ∧ (Lit.int .i64 x.Bill.Flags).wf = true ∧ (Lit.int .i64 x.Bill.Parts).wf = true ∧ Sq w aX.TV 9 72 v0 x.Signs ∧ Sq w bE.TV 2 16 v1 x.Alters ∧ Sq w bP.TV 9 72 v2 x.Acts ∧ Sq w bS.TV 3 24 v3 x.Facts
def aB.wf (x:aB):Prop:=bF.wf x.Bill ∧ Wl aX.wf x.Signs ∧ Wl bE.wf x.Alters ∧ Wl bP.wf x.Acts ∧ Wl bS.wf x.Facts
theorem aB.TV_wf (w:World) (x:aB) (cs:List Value) (h:aB.TV w x cs):aB.wf x:=by
 obtain ⟨v0,v1,v2,v3,e,q0,q1,q2,q3,q4,q5,q6,q7,q8,q9,q10,q11,q12,q13,q14,q15,q16,q17,q18⟩:=h
 exact ⟨⟨cF q0,cF q1,cF q2,cF q3,cF q4,⟨cF q5,cF q6,cF q7⟩,cF q8,cF q9,cF q10,cF q11,cF q12,cF q13,cF q14⟩,q15.wl aX.TV_wf,q16.wl bE.TV_wf,q17.wl bP.TV_wf,q18.wl bS.TV_wf⟩
def aB.fit (x:aB):Prop:=bF.fit x.Bill ∧ Fl aX.fit 72 x.Signs ∧ Fl bE.fit 16 x.Alters ∧ Fl bP.fit 72 x.Acts ∧ Fl bS.fit 24 x.Facts
theorem aB.TV_fit (w:World) (x:aB) (cs:List Value) (h:aB.TV w x cs):aB.fit x:=by
 obtain ⟨v0,v1,v2,v3,e,q0,q1,q2,q3,q4,q5,q6,q7,q8,q9,q10,q11,q12,q13,q14,q15,q16,q17,q18⟩:=h
 exact ⟨trivial,q15.fl aX.TV_fit,q16.fl bE.TV_fit,q17.fl bP.TV_fit,q18.fl bS.TV_fit⟩
theorem aB.rds:O6 aB.TV aB.cells 19:=fun w x cs h=>by
 obtain ⟨v0,v1,v2,v3,e,q0,q1,q2,q3,q4,q5,q6,q7,q8,q9,q10,q11,q12,q13,q14,q15,q16,q17,q18⟩:=h
 subst e
 exact ⟨gO.cons (.int _ _) rfl (gO.cons (.int _ _) rfl (gO.cons (.int _ _) rfl (gO.cons (.int _ _) rfl (gO.cons (.int _ _) rfl (gO.cons (.int _ _) rfl (gO.cons (.int _ _) rfl (gO.cons (.int _ _) rfl (gO.cons (.int _ _) rfl (gO.cons (.int _ _) rfl (gO.cons (.int _ _) rfl (gO.cons (.int _ _) rfl (gO.cons (.int _ _) rfl (gO.cons (.int _ _) rfl (gO.cons (.int _ _) rfl (gO.cons (q15.reads aX.rds) rfl (gO.cons (q16.reads bE.rds) rfl (gO.cons (q17.reads bP.rds) rfl (gO.cons (q18.reads bS.rds) rfl (gO.nil _))))))))))))))))))),rfl⟩
theorem TD:rF Try.prog 41 aB.TV:=fun H enc w base sp held fuel cs x h hL=>by
 obtain ⟨xs,n,hfuel,hxx,hlen,hxl,hf⟩:=DataW.trod_struct Try.underlying41 h
 subst hxx
 have hl:cs.length = 19:=hlen.trans (by kernel_rfl)
 match cs,hl with
 | [c0,c1,c2,c3,c4,c5,c6,c7,c8,c9,c10,c11,c12,c13,c14,c15,c16,c17,c18],_ =>
  obtain ⟨y0,hy0⟩ : ∃ y,xs[0]? = some y:=⟨xs[0]'(by rw [hxl]; simp),by simp⟩
  have f0:DataW.trod enc Try.prog w base sp held n 35 ((List.drop 0 [c0,c1,c2,c3,c4,c5,c6,c7,c8,c9,c10,c11,c12,c13,c14,c15,c16,c17,c18]).take (Try.prog.cellsOf 35)) = some y0:=(hf 0 _ rfl).trans hy0
  rw [show Try.prog.cellsOf 35 = 15 from by kernel_rfl] at f0
  have g0:=Light.part (P:=Try.prog) Try.underlying41 (i:=0) rfl hy0 hL
  obtain ⟨d0,t0⟩:=UK H enc w base sp held n _ _ f0 g0
  obtain ⟨y1,hy1⟩ : ∃ y,xs[1]? = some y:=⟨xs[1]'(by rw [hxl]; simp),by simp⟩
  have f1:DataW.trod enc Try.prog w base sp held n 36 ((List.drop 15 [c0,c1,c2,c3,c4,c5,c6,c7,c8,c9,c10,c11,c12,c13,c14,c15,c16,c17,c18]).take (Try.prog.cellsOf 36)) = some y1:=(hf 1 _ rfl).trans hy1
  rw [show Try.prog.cellsOf 36 = 1 from by kernel_rfl] at f1
  have g1:=Light.part (P:=Try.prog) Try.underlying41 (i:=1) rfl hy1 hL
  obtain ⟨d1,t1⟩:=(fK (k:=9) (bt:=72) Try.underlying36 (by kernel_rfl) (by kernel_rfl) (by omega) LZ) H enc w base sp held n _ _ f1 g1
  obtain ⟨y2,hy2⟩ : ∃ y,xs[2]? = some y:=⟨xs[2]'(by rw [hxl]; simp),by simp⟩
  have f2:DataW.trod enc Try.prog w base sp held n 37 ((List.drop 16 [c0,c1,c2,c3,c4,c5,c6,c7,c8,c9,c10,c11,c12,c13,c14,c15,c16,c17,c18]).take (Try.prog.cellsOf 37)) = some y2:=(hf 2 _ rfl).trans hy2
  rw [show Try.prog.cellsOf 37 = 1 from by kernel_rfl] at f2
  have g2:=Light.part (P:=Try.prog) Try.underlying41 (i:=2) rfl hy2 hL
  obtain ⟨d2,t2⟩:=(fK (k:=2) (bt:=16) Try.underlying37 (by kernel_rfl) (by kernel_rfl) (by omega) Q8) H enc w base sp held n _ _ f2 g2
  obtain ⟨y3,hy3⟩ : ∃ y,xs[3]? = some y:=⟨xs[3]'(by rw [hxl]; simp),by simp⟩
  have f3:DataW.trod enc Try.prog w base sp held n 38 ((List.drop 17 [c0,c1,c2,c3,c4,c5,c6,c7,c8,c9,c10,c11,c12,c13,c14,c15,c16,c17,c18]).take (Try.prog.cellsOf 38)) = some y3:=(hf 3 _ rfl).trans hy3
  rw [show Try.prog.cellsOf 38 = 1 from by kernel_rfl] at f3
  have g3:=Light.part (P:=Try.prog) Try.underlying41 (i:=3) rfl hy3 hL
  obtain ⟨d3,t3⟩:=(fK (k:=9) (bt:=72) Try.underlying38 (by kernel_rfl) (by kernel_rfl) (by omega) YJ) H enc w base sp held n _ _ f3 g3
  obtain ⟨y4,hy4⟩ : ∃ y,xs[4]? = some y:=⟨xs[4]'(by rw [hxl]; simp),by simp⟩
  have f4:DataW.trod enc Try.prog w base sp held n 39 ((List.drop 18 [c0,c1,c2,c3,c4,c5,c6,c7,c8,c9,c10,c11,c12,c13,c14,c15,c16,c17,c18]).take (Try.prog.cellsOf 39)) = some y4:=(hf 4 _ rfl).trans hy4
  rw [show Try.prog.cellsOf 39 = 1 from by kernel_rfl] at f4
  have g4:=Light.part (P:=Try.prog) Try.underlying41 (i:=4) rfl hy4 hL
  obtain ⟨d4,t4⟩:=(fK (k:=3) (bt:=24) Try.underlying39 (by kernel_rfl) (by kernel_rfl) (by omega) UC) H enc w base sp held n _ _ f4 g4
  obtain ⟨e0,q0_0,q0_1,q0_2,q0_3,q0_4,q0_5,q0_6,q0_7,q0_8,q0_9,q0_10,q0_11,q0_12,q0_13,q0_14⟩:=t0
  obtain ⟨u1,e1,q1⟩:=t1
  obtain ⟨u2,e2,q2⟩:=t2
  obtain ⟨u3,e3,q3⟩:=t3
  obtain ⟨u4,e4,q4⟩:=t4
  simp at e0 e1 e2 e3 e4
  exact ⟨⟨d0,d1,d2,d3,d4⟩,u1,u2,u3,u4,by simp [e0,e1,e2,e3,e4],q0_0,q0_1,q0_2,q0_3,q0_4,q0_5,q0_6,q0_7,q0_8,q0_9,q0_10,q0_11,q0_12,q0_13,q0_14,q1,q2,q3,q4⟩
end Go.Proofs.Ytfhebiceipgdmaa
