/- How what a law is handed reads. Printed by a program. -/
import Derived.Test.YtfhebiceipgdmaaVmG
import Derived.Test.YtfhebiceipgdmaaTab
import Derived.KernelRfl
set_option linter.unusedVariables false
set_option maxRecDepth 100000
namespace Go.Proofs.Ytfhebiceipgdmaa
open Go.RowKit Go.ChangeShapes Go.WideShapes Go.Deep Vm
def GCity.TV (w:World) (x:GCity) (cs:List Value):Prop :=
 ∃ v0 v1 v2:Value,cs = [.string x.Name,.int .i64 x.Order,.int .i64 x.Currency,v0,v1,v2] ∧ x.Name.size ≤ maxLen ∧ (Lit.int .i64 x.Order).wf = true ∧ (Lit.int .i64 x.Currency).wf = true ∧ Sq w IntTV 1 8 v0 x.Rest ∧ Sq w IntTV 1 8 v1 x.Feasts ∧ Sq w IntTV 1 8 v2 x.Shut
def GCity.wf (x:GCity):Prop:=Ws x.Name ∧ I64 x.Order ∧ I64 x.Currency ∧ Wl I64 x.Rest ∧ Wl I64 x.Feasts ∧ Wl I64 x.Shut
theorem GCity.TV_wf (w:World) (x:GCity) (cs:List Value) (h:GCity.TV w x cs):GCity.wf x:=by
 obtain ⟨v0,v1,v2,e,q0,q1,q2,q3,q4,q5⟩:=h
 exact ⟨ws_of q0,wf_i64 q1,wf_i64 q2,q3.wl (fun w x cs h=>wf_i64 h.2),q4.wl (fun w x cs h=>wf_i64 h.2),q5.wl (fun w x cs h=>wf_i64 h.2)⟩
theorem GCity.rds:Rds GCity.TV GCity.cells 6:=fun w x cs h=>by
 obtain ⟨v0,v1,v2,e,q0,q1,q2,q3,q4,q5⟩:=h
 subst e
 exact ⟨RdC.cons (.str _ q0) rfl (RdC.cons (.int _ _) rfl (RdC.cons (.int _ _) rfl (RdC.cons (q3.reads rds_int) rfl (RdC.cons (q4.reads rds_int) rfl (RdC.cons (q5.reads rds_int) rfl (RdC.nil _)))))),rfl⟩
theorem opens_GCity:Opens Try.prog 87 GCity.TV:=fun H enc w base sp held fuel cs x h hL=>by
 obtain ⟨xs,n,hfuel,hxx,hlen,hxl,hf⟩:=DataW.trod_struct Try.underlying87 h
 subst hxx
 have hl:cs.length = 6:=hlen.trans (by kernel_rfl)
 match cs,hl with
 | [c0,c1,c2,c3,c4,c5],_ =>
  obtain ⟨y0,hy0⟩ : ∃ y,xs[0]? = some y:=⟨xs[0]'(by rw [hxl]; simp),by simp⟩
  have f0:DataW.trod enc Try.prog w base sp held n 9 ((List.drop 0 [c0,c1,c2,c3,c4,c5]).take (Try.prog.cellsOf 9)) = some y0:=(hf 0 _ rfl).trans hy0
  rw [show Try.prog.cellsOf 9 = 1 from by kernel_rfl] at f0
  have g0:=Light.part (P:=Try.prog) Try.underlying87 (i:=0) rfl hy0 hL
  obtain ⟨d0,t0⟩:=(opens_str Try.underlying9) H enc w base sp held n _ _ f0 g0
  obtain ⟨y1,hy1⟩ : ∃ y,xs[1]? = some y:=⟨xs[1]'(by rw [hxl]; simp),by simp⟩
  have f1:DataW.trod enc Try.prog w base sp held n 3 ((List.drop 1 [c0,c1,c2,c3,c4,c5]).take (Try.prog.cellsOf 3)) = some y1:=(hf 1 _ rfl).trans hy1
  rw [show Try.prog.cellsOf 3 = 1 from by kernel_rfl] at f1
  have g1:=Light.part (P:=Try.prog) Try.underlying87 (i:=1) rfl hy1 hL
  obtain ⟨d1,t1⟩:=(opens_int Try.underlying3) H enc w base sp held n _ _ f1 g1
  obtain ⟨y2,hy2⟩ : ∃ y,xs[2]? = some y:=⟨xs[2]'(by rw [hxl]; simp),by simp⟩
  have f2:DataW.trod enc Try.prog w base sp held n 3 ((List.drop 2 [c0,c1,c2,c3,c4,c5]).take (Try.prog.cellsOf 3)) = some y2:=(hf 2 _ rfl).trans hy2
  rw [show Try.prog.cellsOf 3 = 1 from by kernel_rfl] at f2
  have g2:=Light.part (P:=Try.prog) Try.underlying87 (i:=2) rfl hy2 hL
  obtain ⟨d2,t2⟩:=(opens_int Try.underlying3) H enc w base sp held n _ _ f2 g2
  obtain ⟨y3,hy3⟩ : ∃ y,xs[3]? = some y:=⟨xs[3]'(by rw [hxl]; simp),by simp⟩
  have f3:DataW.trod enc Try.prog w base sp held n 68 ((List.drop 3 [c0,c1,c2,c3,c4,c5]).take (Try.prog.cellsOf 68)) = some y3:=(hf 3 _ rfl).trans hy3
  rw [show Try.prog.cellsOf 68 = 1 from by kernel_rfl] at f3
  have g3:=Light.part (P:=Try.prog) Try.underlying87 (i:=3) rfl hy3 hL
  obtain ⟨d3,t3⟩:=(opens_slice (k:=1) (bt:=8) Try.underlying68 (by kernel_rfl) (by kernel_rfl) (by omega) (opens_int Try.underlying3)) H enc w base sp held n _ _ f3 g3
  obtain ⟨y4,hy4⟩ : ∃ y,xs[4]? = some y:=⟨xs[4]'(by rw [hxl]; simp),by simp⟩
  have f4:DataW.trod enc Try.prog w base sp held n 68 ((List.drop 4 [c0,c1,c2,c3,c4,c5]).take (Try.prog.cellsOf 68)) = some y4:=(hf 4 _ rfl).trans hy4
  rw [show Try.prog.cellsOf 68 = 1 from by kernel_rfl] at f4
  have g4:=Light.part (P:=Try.prog) Try.underlying87 (i:=4) rfl hy4 hL
  obtain ⟨d4,t4⟩:=(opens_slice (k:=1) (bt:=8) Try.underlying68 (by kernel_rfl) (by kernel_rfl) (by omega) (opens_int Try.underlying3)) H enc w base sp held n _ _ f4 g4
  obtain ⟨y5,hy5⟩ : ∃ y,xs[5]? = some y:=⟨xs[5]'(by rw [hxl]; simp),by simp⟩
  have f5:DataW.trod enc Try.prog w base sp held n 68 ((List.drop 5 [c0,c1,c2,c3,c4,c5]).take (Try.prog.cellsOf 68)) = some y5:=(hf 5 _ rfl).trans hy5
  rw [show Try.prog.cellsOf 68 = 1 from by kernel_rfl] at f5
  have g5:=Light.part (P:=Try.prog) Try.underlying87 (i:=5) rfl hy5 hL
  obtain ⟨d5,t5⟩:=(opens_slice (k:=1) (bt:=8) Try.underlying68 (by kernel_rfl) (by kernel_rfl) (by omega) (opens_int Try.underlying3)) H enc w base sp held n _ _ f5 g5
  obtain ⟨e0,q0⟩:=t0
  obtain ⟨e1,q1⟩:=t1
  obtain ⟨e2,q2⟩:=t2
  obtain ⟨u3,e3,q3⟩:=t3
  obtain ⟨u4,e4,q4⟩:=t4
  obtain ⟨u5,e5,q5⟩:=t5
  simp at e0 e1 e2 e3 e4 e5
  exact ⟨⟨d0,d1,d2,d3,d4,d5⟩,u3,u4,u5,by simp [e0,e1,e2,e3,e4,e5],q0,q1,q2,q3,q4,q5⟩
def GGroup.TV (w:World) (x:GGroup) (cs:List Value):Prop :=
 cs = [.int .i64 x.Grade] ∧ (Lit.int .i64 x.Grade).wf = true
def GGroup.wf (x:GGroup):Prop:=I64 x.Grade
theorem GGroup.TV_wf (w:World) (x:GGroup) (cs:List Value) (h:GGroup.TV w x cs):GGroup.wf x:=by
 obtain ⟨e,q0⟩:=h
 exact wf_i64 q0
theorem GGroup.rds:Rds GGroup.TV GGroup.cells 1:=fun w x cs h=>by
 obtain ⟨e,q0⟩:=h
 subst e
 exact ⟨RdC.cons (.int _ _) rfl (RdC.nil _),rfl⟩
theorem opens_GGroup:Opens Try.prog 113 GGroup.TV:=fun H enc w base sp held fuel cs x h hL=>by
 obtain ⟨xs,n,hfuel,hxx,hlen,hxl,hf⟩:=DataW.trod_struct Try.underlying113 h
 subst hxx
 have hl:cs.length = 1:=hlen.trans (by kernel_rfl)
 match cs,hl with
 | [c0],_ =>
  obtain ⟨y0,hy0⟩ : ∃ y,xs[0]? = some y:=⟨xs[0]'(by rw [hxl]; simp),by simp⟩
  have f0:DataW.trod enc Try.prog w base sp held n 3 ((List.drop 0 [c0]).take (Try.prog.cellsOf 3)) = some y0:=(hf 0 _ rfl).trans hy0
  rw [show Try.prog.cellsOf 3 = 1 from by kernel_rfl] at f0
  have g0:=Light.part (P:=Try.prog) Try.underlying113 (i:=0) rfl hy0 hL
  obtain ⟨d0,t0⟩:=(opens_int Try.underlying3) H enc w base sp held n _ _ f0 g0
  obtain ⟨e0,q0⟩:=t0
  simp at e0
  exact ⟨⟨d0⟩,by simp [e0],q0⟩
def GFirm.TV (w:World) (x:GFirm) (cs:List Value):Prop :=
 cs = [.string x.Name,.int .i64 x.City,.int .i64 x.Group] ∧ x.Name.size ≤ maxLen ∧ (Lit.int .i64 x.City).wf = true ∧ (Lit.int .i64 x.Group).wf = true
def GFirm.wf (x:GFirm):Prop:=Ws x.Name ∧ I64 x.City ∧ I64 x.Group
theorem GFirm.TV_wf (w:World) (x:GFirm) (cs:List Value) (h:GFirm.TV w x cs):GFirm.wf x:=by
 obtain ⟨e,q0,q1,q2⟩:=h
 exact ⟨ws_of q0,wf_i64 q1,wf_i64 q2⟩
theorem GFirm.rds:Rds GFirm.TV GFirm.cells 3:=fun w x cs h=>by
 obtain ⟨e,q0,q1,q2⟩:=h
 subst e
 exact ⟨RdC.cons (.str _ q0) rfl (RdC.cons (.int _ _) rfl (RdC.cons (.int _ _) rfl (RdC.nil _))),rfl⟩
theorem opens_GFirm:Opens Try.prog 115 GFirm.TV:=fun H enc w base sp held fuel cs x h hL=>by
 obtain ⟨xs,n,hfuel,hxx,hlen,hxl,hf⟩:=DataW.trod_struct Try.underlying115 h
 subst hxx
 have hl:cs.length = 3:=hlen.trans (by kernel_rfl)
 match cs,hl with
 | [c0,c1,c2],_ =>
  obtain ⟨y0,hy0⟩ : ∃ y,xs[0]? = some y:=⟨xs[0]'(by rw [hxl]; simp),by simp⟩
  have f0:DataW.trod enc Try.prog w base sp held n 9 ((List.drop 0 [c0,c1,c2]).take (Try.prog.cellsOf 9)) = some y0:=(hf 0 _ rfl).trans hy0
  rw [show Try.prog.cellsOf 9 = 1 from by kernel_rfl] at f0
  have g0:=Light.part (P:=Try.prog) Try.underlying115 (i:=0) rfl hy0 hL
  obtain ⟨d0,t0⟩:=(opens_str Try.underlying9) H enc w base sp held n _ _ f0 g0
  obtain ⟨y1,hy1⟩ : ∃ y,xs[1]? = some y:=⟨xs[1]'(by rw [hxl]; simp),by simp⟩
  have f1:DataW.trod enc Try.prog w base sp held n 3 ((List.drop 1 [c0,c1,c2]).take (Try.prog.cellsOf 3)) = some y1:=(hf 1 _ rfl).trans hy1
  rw [show Try.prog.cellsOf 3 = 1 from by kernel_rfl] at f1
  have g1:=Light.part (P:=Try.prog) Try.underlying115 (i:=1) rfl hy1 hL
  obtain ⟨d1,t1⟩:=(opens_int Try.underlying3) H enc w base sp held n _ _ f1 g1
  obtain ⟨y2,hy2⟩ : ∃ y,xs[2]? = some y:=⟨xs[2]'(by rw [hxl]; simp),by simp⟩
  have f2:DataW.trod enc Try.prog w base sp held n 3 ((List.drop 2 [c0,c1,c2]).take (Try.prog.cellsOf 3)) = some y2:=(hf 2 _ rfl).trans hy2
  rw [show Try.prog.cellsOf 3 = 1 from by kernel_rfl] at f2
  have g2:=Light.part (P:=Try.prog) Try.underlying115 (i:=2) rfl hy2 hL
  obtain ⟨d2,t2⟩:=(opens_int Try.underlying3) H enc w base sp held n _ _ f2 g2
  obtain ⟨e0,q0⟩:=t0
  obtain ⟨e1,q1⟩:=t1
  obtain ⟨e2,q2⟩:=t2
  simp at e0 e1 e2
  exact ⟨⟨d0,d1,d2⟩,by simp [e0,e1,e2],q0,q1,q2⟩
def GChoice.TV (w:World) (x:GChoice) (cs:List Value):Prop :=
 cs = [.int .i64 x.Ask,.int .i64 x.By,.bool x.Whole] ∧ (Lit.int .i64 x.Ask).wf = true ∧ (Lit.int .i64 x.By).wf = true
def GChoice.wf (x:GChoice):Prop:=I64 x.Ask ∧ I64 x.By
theorem GChoice.TV_wf (w:World) (x:GChoice) (cs:List Value) (h:GChoice.TV w x cs):GChoice.wf x:=by
 obtain ⟨e,q0,q1⟩:=h
 exact ⟨wf_i64 q0,wf_i64 q1⟩
theorem GChoice.rds:Rds GChoice.TV GChoice.cells 3:=fun w x cs h=>by
 obtain ⟨e,q0,q1⟩:=h
 subst e
 exact ⟨RdC.cons (.int _ _) rfl (RdC.cons (.int _ _) rfl (RdC.cons (.bool _) rfl (RdC.nil _))),rfl⟩
theorem opens_GChoice:Opens Try.prog 137 GChoice.TV:=fun H enc w base sp held fuel cs x h hL=>by
 obtain ⟨xs,n,hfuel,hxx,hlen,hxl,hf⟩:=DataW.trod_struct Try.underlying137 h
 subst hxx
 have hl:cs.length = 3:=hlen.trans (by kernel_rfl)
 match cs,hl with
 | [c0,c1,c2],_ =>
  obtain ⟨y0,hy0⟩ : ∃ y,xs[0]? = some y:=⟨xs[0]'(by rw [hxl]; simp),by simp⟩
  have f0:DataW.trod enc Try.prog w base sp held n 3 ((List.drop 0 [c0,c1,c2]).take (Try.prog.cellsOf 3)) = some y0:=(hf 0 _ rfl).trans hy0
  rw [show Try.prog.cellsOf 3 = 1 from by kernel_rfl] at f0
  have g0:=Light.part (P:=Try.prog) Try.underlying137 (i:=0) rfl hy0 hL
  obtain ⟨d0,t0⟩:=(opens_int Try.underlying3) H enc w base sp held n _ _ f0 g0
  obtain ⟨y1,hy1⟩ : ∃ y,xs[1]? = some y:=⟨xs[1]'(by rw [hxl]; simp),by simp⟩
  have f1:DataW.trod enc Try.prog w base sp held n 3 ((List.drop 1 [c0,c1,c2]).take (Try.prog.cellsOf 3)) = some y1:=(hf 1 _ rfl).trans hy1
  rw [show Try.prog.cellsOf 3 = 1 from by kernel_rfl] at f1
  have g1:=Light.part (P:=Try.prog) Try.underlying137 (i:=1) rfl hy1 hL
  obtain ⟨d1,t1⟩:=(opens_int Try.underlying3) H enc w base sp held n _ _ f1 g1
  obtain ⟨y2,hy2⟩ : ∃ y,xs[2]? = some y:=⟨xs[2]'(by rw [hxl]; simp),by simp⟩
  have f2:DataW.trod enc Try.prog w base sp held n 4 ((List.drop 2 [c0,c1,c2]).take (Try.prog.cellsOf 4)) = some y2:=(hf 2 _ rfl).trans hy2
  rw [show Try.prog.cellsOf 4 = 1 from by kernel_rfl] at f2
  have g2:=Light.part (P:=Try.prog) Try.underlying137 (i:=2) rfl hy2 hL
  obtain ⟨d2,t2⟩:=(opens_bool Try.underlying4) H enc w base sp held n _ _ f2 g2
  obtain ⟨e0,q0⟩:=t0
  obtain ⟨e1,q1⟩:=t1
  have e2:(_:List Value) = _:=t2
  simp at e0 e1 e2
  exact ⟨⟨d0,d1,d2⟩,by simp [e0,e1,e2],q0,q1⟩
def GTerm.TV (w:World) (x:GTerm) (cs:List Value):Prop :=
 ∃ v0:Value,cs = [.int .i64 x.Op,.int .i64 x.N,v0] ∧ (Lit.int .i64 x.Op).wf = true ∧ (Lit.int .i64 x.N).wf = true ∧ Sq w (RowTV 3) 3 40 v0 x.Args
def GTerm.wf (x:GTerm):Prop:=I64 x.Op ∧ I64 x.N ∧ Wl (fun _=>True) x.Args
theorem GTerm.TV_wf (w:World) (x:GTerm) (cs:List Value) (h:GTerm.TV w x cs):GTerm.wf x:=by
 obtain ⟨v0,e,q0,q1,q2⟩:=h
 exact ⟨wf_i64 q0,wf_i64 q1,q2.wl (fun _ _ _ _=>trivial)⟩
theorem GTerm.rds:Rds GTerm.TV GTerm.cells 3:=fun w x cs h=>by
 obtain ⟨v0,e,q0,q1,q2⟩:=h
 subst e
 exact ⟨RdC.cons (.int _ _) rfl (RdC.cons (.int _ _) rfl (RdC.cons (q2.reads (rds_row 3)) rfl (RdC.nil _))),rfl⟩
theorem opens_GTerm:Opens Try.prog 140 GTerm.TV:=fun H enc w base sp held fuel=>by
 induction fuel using Nat.strongRecOn with
 | _ fuel ih =>
 intro cs x h hL
 obtain ⟨xs,n,hfuel,hxx,hlen,hxl,hf⟩:=DataW.trod_struct Try.underlying140 h
 subst hxx
 have hl:cs.length = 3:=hlen.trans (by kernel_rfl)
 match cs,hl with
 | [c0,c1,c2],_ =>
  obtain ⟨y0,hy0⟩ : ∃ y,xs[0]? = some y:=⟨xs[0]'(by rw [hxl]; simp),by simp⟩
  have f0:DataW.trod enc Try.prog w base sp held n 3 ((List.drop 0 [c0,c1,c2]).take (Try.prog.cellsOf 3)) = some y0:=(hf 0 _ rfl).trans hy0
  rw [show Try.prog.cellsOf 3 = 1 from by kernel_rfl] at f0
  have g0:=Light.part (P:=Try.prog) Try.underlying140 (i:=0) rfl hy0 hL
  obtain ⟨d0,t0⟩:=(opens_int Try.underlying3) H enc w base sp held n _ _ f0 g0
  obtain ⟨y1,hy1⟩ : ∃ y,xs[1]? = some y:=⟨xs[1]'(by rw [hxl]; simp),by simp⟩
  have f1:DataW.trod enc Try.prog w base sp held n 3 ((List.drop 1 [c0,c1,c2]).take (Try.prog.cellsOf 3)) = some y1:=(hf 1 _ rfl).trans hy1
  rw [show Try.prog.cellsOf 3 = 1 from by kernel_rfl] at f1
  have g1:=Light.part (P:=Try.prog) Try.underlying140 (i:=1) rfl hy1 hL
  obtain ⟨d1,t1⟩:=(opens_int Try.underlying3) H enc w base sp held n _ _ f1 g1
  obtain ⟨y2,hy2⟩ : ∃ y,xs[2]? = some y:=⟨xs[2]'(by rw [hxl]; simp),by simp⟩
  have f2:DataW.trod enc Try.prog w base sp held n 138 ((List.drop 2 [c0,c1,c2]).take (Try.prog.cellsOf 138)) = some y2:=(hf 2 _ rfl).trans hy2
  rw [show Try.prog.cellsOf 138 = 1 from by kernel_rfl] at f2
  have g2:=Light.part (P:=Try.prog) Try.underlying140 (i:=2) rfl hy2 hL
  obtain ⟨d2,t2⟩:=opens_slice_at (k:=3) (bt:=40) (TV:=RowTV 3) Try.underlying138 (by kernel_rfl) (by kernel_rfl) (by omega) (fun m hm cs x h hL=>by obtain ⟨g,hg⟩:=ih m (by omega) cs x h hL; exact ⟨GTerm.cells g,GTerm.rds _ _ _ hg⟩) f2 g2
  obtain ⟨e0,q0⟩:=t0
  obtain ⟨e1,q1⟩:=t1
  obtain ⟨u2,e2,q2⟩:=t2
  simp at e0 e1 e2
  exact ⟨⟨d0,d1,d2⟩,u2,by simp [e0,e1,e2],q0,q1,q2⟩
def GRule.TV (w:World) (x:GRule) (cs:List Value):Prop :=
 ∃ v0:Value,cs = [.int .i64 x.Ask,.int .i64 x.Term.Op,.int .i64 x.Term.N,v0] ∧ (Lit.int .i64 x.Ask).wf = true ∧ (Lit.int .i64 x.Term.Op).wf = true ∧ (Lit.int .i64 x.Term.N).wf = true ∧ Sq w (RowTV 3) 3 40 v0 x.Term.Args
def GRule.wf (x:GRule):Prop:=I64 x.Ask ∧ GTerm.wf x.Term
theorem GRule.TV_wf (w:World) (x:GRule) (cs:List Value) (h:GRule.TV w x cs):GRule.wf x:=by
 obtain ⟨v0,e,q0,q1,q2,q3⟩:=h
 exact ⟨wf_i64 q0,⟨wf_i64 q1,wf_i64 q2,q3.wl (fun _ _ _ _=>trivial)⟩⟩
theorem GRule.rds:Rds GRule.TV GRule.cells 4:=fun w x cs h=>by
 obtain ⟨v0,e,q0,q1,q2,q3⟩:=h
 subst e
 exact ⟨RdC.cons (.int _ _) rfl (RdC.cons (.int _ _) rfl (RdC.cons (.int _ _) rfl (RdC.cons (q3.reads (rds_row 3)) rfl (RdC.nil _)))),rfl⟩
theorem opens_GRule:Opens Try.prog 142 GRule.TV:=fun H enc w base sp held fuel cs x h hL=>by
 obtain ⟨xs,n,hfuel,hxx,hlen,hxl,hf⟩:=DataW.trod_struct Try.underlying142 h
 subst hxx
 have hl:cs.length = 4:=hlen.trans (by kernel_rfl)
 match cs,hl with
 | [c0,c1,c2,c3],_ =>
  obtain ⟨y0,hy0⟩ : ∃ y,xs[0]? = some y:=⟨xs[0]'(by rw [hxl]; simp),by simp⟩
  have f0:DataW.trod enc Try.prog w base sp held n 3 ((List.drop 0 [c0,c1,c2,c3]).take (Try.prog.cellsOf 3)) = some y0:=(hf 0 _ rfl).trans hy0
  rw [show Try.prog.cellsOf 3 = 1 from by kernel_rfl] at f0
  have g0:=Light.part (P:=Try.prog) Try.underlying142 (i:=0) rfl hy0 hL
  obtain ⟨d0,t0⟩:=(opens_int Try.underlying3) H enc w base sp held n _ _ f0 g0
  obtain ⟨y1,hy1⟩ : ∃ y,xs[1]? = some y:=⟨xs[1]'(by rw [hxl]; simp),by simp⟩
  have f1:DataW.trod enc Try.prog w base sp held n 140 ((List.drop 1 [c0,c1,c2,c3]).take (Try.prog.cellsOf 140)) = some y1:=(hf 1 _ rfl).trans hy1
  rw [show Try.prog.cellsOf 140 = 3 from by kernel_rfl] at f1
  have g1:=Light.part (P:=Try.prog) Try.underlying142 (i:=1) rfl hy1 hL
  obtain ⟨d1,t1⟩:=opens_GTerm H enc w base sp held n _ _ f1 g1
  obtain ⟨e0,q0⟩:=t0
  obtain ⟨u1_0,e1,q1_0,q1_1,q1_2⟩:=t1
  simp at e0 e1
  exact ⟨⟨d0,d1⟩,u1_0,by simp [e0,e1],q0,q1_0,q1_1,q1_2⟩
def GOrder.TV (w:World) (x:GOrder) (cs:List Value):Prop :=
 ∃ v0 v1:Value,cs = [.string x.Name,.bool x.Accepts,v0,v1] ∧ x.Name.size ≤ maxLen ∧ Sq w GChoice.TV 3 24 v0 x.Choices ∧ Sq w GRule.TV 4 48 v1 x.Rules
def GOrder.wf (x:GOrder):Prop:=Ws x.Name ∧ Wl GChoice.wf x.Choices ∧ Wl GRule.wf x.Rules
theorem GOrder.TV_wf (w:World) (x:GOrder) (cs:List Value) (h:GOrder.TV w x cs):GOrder.wf x:=by
 obtain ⟨v0,v1,e,q0,q1,q2⟩:=h
 exact ⟨ws_of q0,q1.wl GChoice.TV_wf,q2.wl GRule.TV_wf⟩
theorem GOrder.rds:Rds GOrder.TV GOrder.cells 4:=fun w x cs h=>by
 obtain ⟨v0,v1,e,q0,q1,q2⟩:=h
 subst e
 exact ⟨RdC.cons (.str _ q0) rfl (RdC.cons (.bool _) rfl (RdC.cons (q1.reads GChoice.rds) rfl (RdC.cons (q2.reads GRule.rds) rfl (RdC.nil _)))),rfl⟩
theorem opens_GOrder:Opens Try.prog 91 GOrder.TV:=fun H enc w base sp held fuel cs x h hL=>by
 obtain ⟨xs,n,hfuel,hxx,hlen,hxl,hf⟩:=DataW.trod_struct Try.underlying91 h
 subst hxx
 have hl:cs.length = 4:=hlen.trans (by kernel_rfl)
 match cs,hl with
 | [c0,c1,c2,c3],_ =>
  obtain ⟨y0,hy0⟩ : ∃ y,xs[0]? = some y:=⟨xs[0]'(by rw [hxl]; simp),by simp⟩
  have f0:DataW.trod enc Try.prog w base sp held n 9 ((List.drop 0 [c0,c1,c2,c3]).take (Try.prog.cellsOf 9)) = some y0:=(hf 0 _ rfl).trans hy0
  rw [show Try.prog.cellsOf 9 = 1 from by kernel_rfl] at f0
  have g0:=Light.part (P:=Try.prog) Try.underlying91 (i:=0) rfl hy0 hL
  obtain ⟨d0,t0⟩:=(opens_str Try.underlying9) H enc w base sp held n _ _ f0 g0
  obtain ⟨y1,hy1⟩ : ∃ y,xs[1]? = some y:=⟨xs[1]'(by rw [hxl]; simp),by simp⟩
  have f1:DataW.trod enc Try.prog w base sp held n 4 ((List.drop 1 [c0,c1,c2,c3]).take (Try.prog.cellsOf 4)) = some y1:=(hf 1 _ rfl).trans hy1
  rw [show Try.prog.cellsOf 4 = 1 from by kernel_rfl] at f1
  have g1:=Light.part (P:=Try.prog) Try.underlying91 (i:=1) rfl hy1 hL
  obtain ⟨d1,t1⟩:=(opens_bool Try.underlying4) H enc w base sp held n _ _ f1 g1
  obtain ⟨y2,hy2⟩ : ∃ y,xs[2]? = some y:=⟨xs[2]'(by rw [hxl]; simp),by simp⟩
  have f2:DataW.trod enc Try.prog w base sp held n 88 ((List.drop 2 [c0,c1,c2,c3]).take (Try.prog.cellsOf 88)) = some y2:=(hf 2 _ rfl).trans hy2
  rw [show Try.prog.cellsOf 88 = 1 from by kernel_rfl] at f2
  have g2:=Light.part (P:=Try.prog) Try.underlying91 (i:=2) rfl hy2 hL
  obtain ⟨d2,t2⟩:=(opens_slice (k:=3) (bt:=24) Try.underlying88 (by kernel_rfl) (by kernel_rfl) (by omega) opens_GChoice) H enc w base sp held n _ _ f2 g2
  obtain ⟨y3,hy3⟩ : ∃ y,xs[3]? = some y:=⟨xs[3]'(by rw [hxl]; simp),by simp⟩
  have f3:DataW.trod enc Try.prog w base sp held n 89 ((List.drop 3 [c0,c1,c2,c3]).take (Try.prog.cellsOf 89)) = some y3:=(hf 3 _ rfl).trans hy3
  rw [show Try.prog.cellsOf 89 = 1 from by kernel_rfl] at f3
  have g3:=Light.part (P:=Try.prog) Try.underlying91 (i:=3) rfl hy3 hL
  obtain ⟨d3,t3⟩:=(opens_slice (k:=4) (bt:=48) Try.underlying89 (by kernel_rfl) (by kernel_rfl) (by omega) opens_GRule) H enc w base sp held n _ _ f3 g3
  obtain ⟨e0,q0⟩:=t0
  have e1:(_:List Value) = _:=t1
  obtain ⟨u2,e2,q2⟩:=t2
  obtain ⟨u3,e3,q3⟩:=t3
  simp at e0 e1 e2 e3
  exact ⟨⟨d0,d1,d2,d3⟩,u2,u3,by simp [e0,e1,e2,e3],q0,q2,q3⟩
def GUsance.TV (w:World) (x:GUsance) (cs:List Value):Prop :=
 cs = [.int .i64 x.From,.int .i64 x.To,.int .i64 x.Days] ∧ (Lit.int .i64 x.From).wf = true ∧ (Lit.int .i64 x.To).wf = true ∧ (Lit.int .i64 x.Days).wf = true
def GUsance.wf (x:GUsance):Prop:=I64 x.From ∧ I64 x.To ∧ I64 x.Days
theorem GUsance.TV_wf (w:World) (x:GUsance) (cs:List Value) (h:GUsance.TV w x cs):GUsance.wf x:=by
 obtain ⟨e,q0,q1,q2⟩:=h
 exact ⟨wf_i64 q0,wf_i64 q1,wf_i64 q2⟩
theorem GUsance.rds:Rds GUsance.TV GUsance.cells 3:=fun w x cs h=>by
 obtain ⟨e,q0,q1,q2⟩:=h
 subst e
 exact ⟨RdC.cons (.int _ _) rfl (RdC.cons (.int _ _) rfl (RdC.cons (.int _ _) rfl (RdC.nil _))),rfl⟩
theorem opens_GUsance:Opens Try.prog 131 GUsance.TV:=fun H enc w base sp held fuel cs x h hL=>by
 obtain ⟨xs,n,hfuel,hxx,hlen,hxl,hf⟩:=DataW.trod_struct Try.underlying131 h
 subst hxx
 have hl:cs.length = 3:=hlen.trans (by kernel_rfl)
 match cs,hl with
 | [c0,c1,c2],_ =>
  obtain ⟨y0,hy0⟩ : ∃ y,xs[0]? = some y:=⟨xs[0]'(by rw [hxl]; simp),by simp⟩
  have f0:DataW.trod enc Try.prog w base sp held n 3 ((List.drop 0 [c0,c1,c2]).take (Try.prog.cellsOf 3)) = some y0:=(hf 0 _ rfl).trans hy0
  rw [show Try.prog.cellsOf 3 = 1 from by kernel_rfl] at f0
  have g0:=Light.part (P:=Try.prog) Try.underlying131 (i:=0) rfl hy0 hL
  obtain ⟨d0,t0⟩:=(opens_int Try.underlying3) H enc w base sp held n _ _ f0 g0
  obtain ⟨y1,hy1⟩ : ∃ y,xs[1]? = some y:=⟨xs[1]'(by rw [hxl]; simp),by simp⟩
  have f1:DataW.trod enc Try.prog w base sp held n 3 ((List.drop 1 [c0,c1,c2]).take (Try.prog.cellsOf 3)) = some y1:=(hf 1 _ rfl).trans hy1
  rw [show Try.prog.cellsOf 3 = 1 from by kernel_rfl] at f1
  have g1:=Light.part (P:=Try.prog) Try.underlying131 (i:=1) rfl hy1 hL
  obtain ⟨d1,t1⟩:=(opens_int Try.underlying3) H enc w base sp held n _ _ f1 g1
  obtain ⟨y2,hy2⟩ : ∃ y,xs[2]? = some y:=⟨xs[2]'(by rw [hxl]; simp),by simp⟩
  have f2:DataW.trod enc Try.prog w base sp held n 3 ((List.drop 2 [c0,c1,c2]).take (Try.prog.cellsOf 3)) = some y2:=(hf 2 _ rfl).trans hy2
  rw [show Try.prog.cellsOf 3 = 1 from by kernel_rfl] at f2
  have g2:=Light.part (P:=Try.prog) Try.underlying131 (i:=2) rfl hy2 hL
  obtain ⟨d2,t2⟩:=(opens_int Try.underlying3) H enc w base sp held n _ _ f2 g2
  obtain ⟨e0,q0⟩:=t0
  obtain ⟨e1,q1⟩:=t1
  obtain ⟨e2,q2⟩:=t2
  simp at e0 e1 e2
  exact ⟨⟨d0,d1,d2⟩,by simp [e0,e1,e2],q0,q1,q2⟩
def GRate.TV (w:World) (x:GRate) (cs:List Value):Prop :=
 cs = [.int .i64 x.From,.int .i64 x.To,.int .i64 x.Num,.int .i64 x.Den,.int .i64 x.Since] ∧ (Lit.int .i64 x.From).wf = true ∧ (Lit.int .i64 x.To).wf = true ∧ (Lit.int .i64 x.Num).wf = true ∧ (Lit.int .i64 x.Den).wf = true ∧ (Lit.int .i64 x.Since).wf = true
def GRate.wf (x:GRate):Prop:=I64 x.From ∧ I64 x.To ∧ I64 x.Num ∧ I64 x.Den ∧ I64 x.Since
theorem GRate.TV_wf (w:World) (x:GRate) (cs:List Value) (h:GRate.TV w x cs):GRate.wf x:=by
 obtain ⟨e,q0,q1,q2,q3,q4⟩:=h
 exact ⟨wf_i64 q0,wf_i64 q1,wf_i64 q2,wf_i64 q3,wf_i64 q4⟩
theorem GRate.rds:Rds GRate.TV GRate.cells 5:=fun w x cs h=>by
 obtain ⟨e,q0,q1,q2,q3,q4⟩:=h
 subst e
 exact ⟨RdC.cons (.int _ _) rfl (RdC.cons (.int _ _) rfl (RdC.cons (.int _ _) rfl (RdC.cons (.int _ _) rfl (RdC.cons (.int _ _) rfl (RdC.nil _))))),rfl⟩
theorem opens_GRate:Opens Try.prog 144 GRate.TV:=fun H enc w base sp held fuel cs x h hL=>by
 obtain ⟨xs,n,hfuel,hxx,hlen,hxl,hf⟩:=DataW.trod_struct Try.underlying144 h
 subst hxx
 have hl:cs.length = 5:=hlen.trans (by kernel_rfl)
 match cs,hl with
 | [c0,c1,c2,c3,c4],_ =>
  obtain ⟨y0,hy0⟩ : ∃ y,xs[0]? = some y:=⟨xs[0]'(by rw [hxl]; simp),by simp⟩
  have f0:DataW.trod enc Try.prog w base sp held n 3 ((List.drop 0 [c0,c1,c2,c3,c4]).take (Try.prog.cellsOf 3)) = some y0:=(hf 0 _ rfl).trans hy0
  rw [show Try.prog.cellsOf 3 = 1 from by kernel_rfl] at f0
  have g0:=Light.part (P:=Try.prog) Try.underlying144 (i:=0) rfl hy0 hL
  obtain ⟨d0,t0⟩:=(opens_int Try.underlying3) H enc w base sp held n _ _ f0 g0
  obtain ⟨y1,hy1⟩ : ∃ y,xs[1]? = some y:=⟨xs[1]'(by rw [hxl]; simp),by simp⟩
  have f1:DataW.trod enc Try.prog w base sp held n 3 ((List.drop 1 [c0,c1,c2,c3,c4]).take (Try.prog.cellsOf 3)) = some y1:=(hf 1 _ rfl).trans hy1
  rw [show Try.prog.cellsOf 3 = 1 from by kernel_rfl] at f1
  have g1:=Light.part (P:=Try.prog) Try.underlying144 (i:=1) rfl hy1 hL
  obtain ⟨d1,t1⟩:=(opens_int Try.underlying3) H enc w base sp held n _ _ f1 g1
  obtain ⟨y2,hy2⟩ : ∃ y,xs[2]? = some y:=⟨xs[2]'(by rw [hxl]; simp),by simp⟩
  have f2:DataW.trod enc Try.prog w base sp held n 3 ((List.drop 2 [c0,c1,c2,c3,c4]).take (Try.prog.cellsOf 3)) = some y2:=(hf 2 _ rfl).trans hy2
  rw [show Try.prog.cellsOf 3 = 1 from by kernel_rfl] at f2
  have g2:=Light.part (P:=Try.prog) Try.underlying144 (i:=2) rfl hy2 hL
  obtain ⟨d2,t2⟩:=(opens_int Try.underlying3) H enc w base sp held n _ _ f2 g2
  obtain ⟨y3,hy3⟩ : ∃ y,xs[3]? = some y:=⟨xs[3]'(by rw [hxl]; simp),by simp⟩
  have f3:DataW.trod enc Try.prog w base sp held n 3 ((List.drop 3 [c0,c1,c2,c3,c4]).take (Try.prog.cellsOf 3)) = some y3:=(hf 3 _ rfl).trans hy3
  rw [show Try.prog.cellsOf 3 = 1 from by kernel_rfl] at f3
  have g3:=Light.part (P:=Try.prog) Try.underlying144 (i:=3) rfl hy3 hL
  obtain ⟨d3,t3⟩:=(opens_int Try.underlying3) H enc w base sp held n _ _ f3 g3
  obtain ⟨y4,hy4⟩ : ∃ y,xs[4]? = some y:=⟨xs[4]'(by rw [hxl]; simp),by simp⟩
  have f4:DataW.trod enc Try.prog w base sp held n 3 ((List.drop 4 [c0,c1,c2,c3,c4]).take (Try.prog.cellsOf 3)) = some y4:=(hf 4 _ rfl).trans hy4
  rw [show Try.prog.cellsOf 3 = 1 from by kernel_rfl] at f4
  have g4:=Light.part (P:=Try.prog) Try.underlying144 (i:=4) rfl hy4 hL
  obtain ⟨d4,t4⟩:=(opens_int Try.underlying3) H enc w base sp held n _ _ f4 g4
  obtain ⟨e0,q0⟩:=t0
  obtain ⟨e1,q1⟩:=t1
  obtain ⟨e2,q2⟩:=t2
  obtain ⟨e3,q3⟩:=t3
  obtain ⟨e4,q4⟩:=t4
  simp at e0 e1 e2 e3 e4
  exact ⟨⟨d0,d1,d2,d3,d4⟩,by simp [e0,e1,e2,e3,e4],q0,q1,q2,q3,q4⟩
def GHalt.TV (w:World) (x:GHalt) (cs:List Value):Prop :=
 cs = [.int .i64 x.Order,.int .i64 x.From,.int .i64 x.To] ∧ (Lit.int .i64 x.Order).wf = true ∧ (Lit.int .i64 x.From).wf = true ∧ (Lit.int .i64 x.To).wf = true
def GHalt.wf (x:GHalt):Prop:=I64 x.Order ∧ I64 x.From ∧ I64 x.To
theorem GHalt.TV_wf (w:World) (x:GHalt) (cs:List Value) (h:GHalt.TV w x cs):GHalt.wf x:=by
 obtain ⟨e,q0,q1,q2⟩:=h
 exact ⟨wf_i64 q0,wf_i64 q1,wf_i64 q2⟩
theorem GHalt.rds:Rds GHalt.TV GHalt.cells 3:=fun w x cs h=>by
 obtain ⟨e,q0,q1,q2⟩:=h
 subst e
 exact ⟨RdC.cons (.int _ _) rfl (RdC.cons (.int _ _) rfl (RdC.cons (.int _ _) rfl (RdC.nil _))),rfl⟩
theorem opens_GHalt:Opens Try.prog 146 GHalt.TV:=fun H enc w base sp held fuel cs x h hL=>by
 obtain ⟨xs,n,hfuel,hxx,hlen,hxl,hf⟩:=DataW.trod_struct Try.underlying146 h
 subst hxx
 have hl:cs.length = 3:=hlen.trans (by kernel_rfl)
 match cs,hl with
 | [c0,c1,c2],_ =>
  obtain ⟨y0,hy0⟩ : ∃ y,xs[0]? = some y:=⟨xs[0]'(by rw [hxl]; simp),by simp⟩
  have f0:DataW.trod enc Try.prog w base sp held n 3 ((List.drop 0 [c0,c1,c2]).take (Try.prog.cellsOf 3)) = some y0:=(hf 0 _ rfl).trans hy0
  rw [show Try.prog.cellsOf 3 = 1 from by kernel_rfl] at f0
  have g0:=Light.part (P:=Try.prog) Try.underlying146 (i:=0) rfl hy0 hL
  obtain ⟨d0,t0⟩:=(opens_int Try.underlying3) H enc w base sp held n _ _ f0 g0
  obtain ⟨y1,hy1⟩ : ∃ y,xs[1]? = some y:=⟨xs[1]'(by rw [hxl]; simp),by simp⟩
  have f1:DataW.trod enc Try.prog w base sp held n 3 ((List.drop 1 [c0,c1,c2]).take (Try.prog.cellsOf 3)) = some y1:=(hf 1 _ rfl).trans hy1
  rw [show Try.prog.cellsOf 3 = 1 from by kernel_rfl] at f1
  have g1:=Light.part (P:=Try.prog) Try.underlying146 (i:=1) rfl hy1 hL
  obtain ⟨d1,t1⟩:=(opens_int Try.underlying3) H enc w base sp held n _ _ f1 g1
  obtain ⟨y2,hy2⟩ : ∃ y,xs[2]? = some y:=⟨xs[2]'(by rw [hxl]; simp),by simp⟩
  have f2:DataW.trod enc Try.prog w base sp held n 3 ((List.drop 2 [c0,c1,c2]).take (Try.prog.cellsOf 3)) = some y2:=(hf 2 _ rfl).trans hy2
  rw [show Try.prog.cellsOf 3 = 1 from by kernel_rfl] at f2
  have g2:=Light.part (P:=Try.prog) Try.underlying146 (i:=2) rfl hy2 hL
  obtain ⟨d2,t2⟩:=(opens_int Try.underlying3) H enc w base sp held n _ _ f2 g2
  obtain ⟨e0,q0⟩:=t0
  obtain ⟨e1,q1⟩:=t1
  obtain ⟨e2,q2⟩:=t2
  simp at e0 e1 e2
  exact ⟨⟨d0,d1,d2⟩,by simp [e0,e1,e2],q0,q1,q2⟩
def GRealm.TV (w:World) (x:GRealm) (cs:List Value):Prop :=
 ∃ v0 v1 v2 v3 v4 v5 v6 v7:Value,cs = [v0,v1,v2,v3,v4,v5,v6,v7] ∧ Sq w StrTV 1 16 v0 x.Currencies ∧ Sq w GCity.TV 6 104 v1 x.Cities ∧ Sq w GGroup.TV 1 8 v2 x.Groups ∧ Sq w GFirm.TV 3 32 v3 x.Firms ∧ Sq w GOrder.TV 4 72 v4 x.Orders ∧ Sq w GUsance.TV 3 24 v5 x.Usances ∧ Sq w GRate.TV 5 40 v6 x.Rates ∧ Sq w GHalt.TV 3 24 v7 x.Halts
def GRealm.wf (x:GRealm):Prop:=Wl Ws x.Currencies ∧ Wl GCity.wf x.Cities ∧ Wl GGroup.wf x.Groups ∧ Wl GFirm.wf x.Firms ∧ Wl GOrder.wf x.Orders ∧ Wl GUsance.wf x.Usances ∧ Wl GRate.wf x.Rates ∧ Wl GHalt.wf x.Halts
theorem GRealm.TV_wf (w:World) (x:GRealm) (cs:List Value) (h:GRealm.TV w x cs):GRealm.wf x:=by
 obtain ⟨v0,v1,v2,v3,v4,v5,v6,v7,e,q0,q1,q2,q3,q4,q5,q6,q7⟩:=h
 exact ⟨q0.wl (fun w x cs h=>ws_of h.2),q1.wl GCity.TV_wf,q2.wl GGroup.TV_wf,q3.wl GFirm.TV_wf,q4.wl GOrder.TV_wf,q5.wl GUsance.TV_wf,q6.wl GRate.TV_wf,q7.wl GHalt.TV_wf⟩
theorem GRealm.rds:Rds GRealm.TV GRealm.cells 8:=fun w x cs h=>by
 obtain ⟨v0,v1,v2,v3,v4,v5,v6,v7,e,q0,q1,q2,q3,q4,q5,q6,q7⟩:=h
 subst e
 exact ⟨RdC.cons (q0.reads rds_str) rfl (RdC.cons (q1.reads GCity.rds) rfl (RdC.cons (q2.reads GGroup.rds) rfl (RdC.cons (q3.reads GFirm.rds) rfl (RdC.cons (q4.reads GOrder.rds) rfl (RdC.cons (q5.reads GUsance.rds) rfl (RdC.cons (q6.reads GRate.rds) rfl (RdC.cons (q7.reads GHalt.rds) rfl (RdC.nil _)))))))),rfl⟩
theorem opens_GRealm:Opens Try.prog 31 GRealm.TV:=fun H enc w base sp held fuel cs x h hL=>by
 obtain ⟨xs,n,hfuel,hxx,hlen,hxl,hf⟩:=DataW.trod_struct Try.underlying31 h
 subst hxx
 have hl:cs.length = 8:=hlen.trans (by kernel_rfl)
 match cs,hl with
 | [c0,c1,c2,c3,c4,c5,c6,c7],_ =>
  obtain ⟨y0,hy0⟩ : ∃ y,xs[0]? = some y:=⟨xs[0]'(by rw [hxl]; simp),by simp⟩
  have f0:DataW.trod enc Try.prog w base sp held n 22 ((List.drop 0 [c0,c1,c2,c3,c4,c5,c6,c7]).take (Try.prog.cellsOf 22)) = some y0:=(hf 0 _ rfl).trans hy0
  rw [show Try.prog.cellsOf 22 = 1 from by kernel_rfl] at f0
  have g0:=Light.part (P:=Try.prog) Try.underlying31 (i:=0) rfl hy0 hL
  obtain ⟨d0,t0⟩:=(opens_slice (k:=1) (bt:=16) Try.underlying22 (by kernel_rfl) (by kernel_rfl) (by omega) (opens_str Try.underlying9)) H enc w base sp held n _ _ f0 g0
  obtain ⟨y1,hy1⟩ : ∃ y,xs[1]? = some y:=⟨xs[1]'(by rw [hxl]; simp),by simp⟩
  have f1:DataW.trod enc Try.prog w base sp held n 23 ((List.drop 1 [c0,c1,c2,c3,c4,c5,c6,c7]).take (Try.prog.cellsOf 23)) = some y1:=(hf 1 _ rfl).trans hy1
  rw [show Try.prog.cellsOf 23 = 1 from by kernel_rfl] at f1
  have g1:=Light.part (P:=Try.prog) Try.underlying31 (i:=1) rfl hy1 hL
  obtain ⟨d1,t1⟩:=(opens_slice (k:=6) (bt:=104) Try.underlying23 (by kernel_rfl) (by kernel_rfl) (by omega) opens_GCity) H enc w base sp held n _ _ f1 g1
  obtain ⟨y2,hy2⟩ : ∃ y,xs[2]? = some y:=⟨xs[2]'(by rw [hxl]; simp),by simp⟩
  have f2:DataW.trod enc Try.prog w base sp held n 24 ((List.drop 2 [c0,c1,c2,c3,c4,c5,c6,c7]).take (Try.prog.cellsOf 24)) = some y2:=(hf 2 _ rfl).trans hy2
  rw [show Try.prog.cellsOf 24 = 1 from by kernel_rfl] at f2
  have g2:=Light.part (P:=Try.prog) Try.underlying31 (i:=2) rfl hy2 hL
  obtain ⟨d2,t2⟩:=(opens_slice (k:=1) (bt:=8) Try.underlying24 (by kernel_rfl) (by kernel_rfl) (by omega) opens_GGroup) H enc w base sp held n _ _ f2 g2
  obtain ⟨y3,hy3⟩ : ∃ y,xs[3]? = some y:=⟨xs[3]'(by rw [hxl]; simp),by simp⟩
  have f3:DataW.trod enc Try.prog w base sp held n 25 ((List.drop 3 [c0,c1,c2,c3,c4,c5,c6,c7]).take (Try.prog.cellsOf 25)) = some y3:=(hf 3 _ rfl).trans hy3
  rw [show Try.prog.cellsOf 25 = 1 from by kernel_rfl] at f3
  have g3:=Light.part (P:=Try.prog) Try.underlying31 (i:=3) rfl hy3 hL
  obtain ⟨d3,t3⟩:=(opens_slice (k:=3) (bt:=32) Try.underlying25 (by kernel_rfl) (by kernel_rfl) (by omega) opens_GFirm) H enc w base sp held n _ _ f3 g3
  obtain ⟨y4,hy4⟩ : ∃ y,xs[4]? = some y:=⟨xs[4]'(by rw [hxl]; simp),by simp⟩
  have f4:DataW.trod enc Try.prog w base sp held n 26 ((List.drop 4 [c0,c1,c2,c3,c4,c5,c6,c7]).take (Try.prog.cellsOf 26)) = some y4:=(hf 4 _ rfl).trans hy4
  rw [show Try.prog.cellsOf 26 = 1 from by kernel_rfl] at f4
  have g4:=Light.part (P:=Try.prog) Try.underlying31 (i:=4) rfl hy4 hL
  obtain ⟨d4,t4⟩:=(opens_slice (k:=4) (bt:=72) Try.underlying26 (by kernel_rfl) (by kernel_rfl) (by omega) opens_GOrder) H enc w base sp held n _ _ f4 g4
  obtain ⟨y5,hy5⟩ : ∃ y,xs[5]? = some y:=⟨xs[5]'(by rw [hxl]; simp),by simp⟩
  have f5:DataW.trod enc Try.prog w base sp held n 27 ((List.drop 5 [c0,c1,c2,c3,c4,c5,c6,c7]).take (Try.prog.cellsOf 27)) = some y5:=(hf 5 _ rfl).trans hy5
  rw [show Try.prog.cellsOf 27 = 1 from by kernel_rfl] at f5
  have g5:=Light.part (P:=Try.prog) Try.underlying31 (i:=5) rfl hy5 hL
  obtain ⟨d5,t5⟩:=(opens_slice (k:=3) (bt:=24) Try.underlying27 (by kernel_rfl) (by kernel_rfl) (by omega) opens_GUsance) H enc w base sp held n _ _ f5 g5
  obtain ⟨y6,hy6⟩ : ∃ y,xs[6]? = some y:=⟨xs[6]'(by rw [hxl]; simp),by simp⟩
  have f6:DataW.trod enc Try.prog w base sp held n 28 ((List.drop 6 [c0,c1,c2,c3,c4,c5,c6,c7]).take (Try.prog.cellsOf 28)) = some y6:=(hf 6 _ rfl).trans hy6
  rw [show Try.prog.cellsOf 28 = 1 from by kernel_rfl] at f6
  have g6:=Light.part (P:=Try.prog) Try.underlying31 (i:=6) rfl hy6 hL
  obtain ⟨d6,t6⟩:=(opens_slice (k:=5) (bt:=40) Try.underlying28 (by kernel_rfl) (by kernel_rfl) (by omega) opens_GRate) H enc w base sp held n _ _ f6 g6
  obtain ⟨y7,hy7⟩ : ∃ y,xs[7]? = some y:=⟨xs[7]'(by rw [hxl]; simp),by simp⟩
  have f7:DataW.trod enc Try.prog w base sp held n 29 ((List.drop 7 [c0,c1,c2,c3,c4,c5,c6,c7]).take (Try.prog.cellsOf 29)) = some y7:=(hf 7 _ rfl).trans hy7
  rw [show Try.prog.cellsOf 29 = 1 from by kernel_rfl] at f7
  have g7:=Light.part (P:=Try.prog) Try.underlying31 (i:=7) rfl hy7 hL
  obtain ⟨d7,t7⟩:=(opens_slice (k:=3) (bt:=24) Try.underlying29 (by kernel_rfl) (by kernel_rfl) (by omega) opens_GHalt) H enc w base sp held n _ _ f7 g7
  obtain ⟨u0,e0,q0⟩:=t0
  obtain ⟨u1,e1,q1⟩:=t1
  obtain ⟨u2,e2,q2⟩:=t2
  obtain ⟨u3,e3,q3⟩:=t3
  obtain ⟨u4,e4,q4⟩:=t4
  obtain ⟨u5,e5,q5⟩:=t5
  obtain ⟨u6,e6,q6⟩:=t6
  obtain ⟨u7,e7,q7⟩:=t7
  simp at e0 e1 e2 e3 e4 e5 e6 e7
  exact ⟨⟨d0,d1,d2,d3,d4,d5,d6,d7⟩,u0,u1,u2,u3,u4,u5,u6,u7,by simp [e0,e1,e2,e3,e4,e5,e6,e7],q0,q1,q2,q3,q4,q5,q6,q7⟩
def GTenor.TV (w:World) (x:GTenor) (cs:List Value):Prop :=
 cs = [.int .i64 x.Kind,.int .i64 x.N,.int .i64 x.Unit] ∧ (Lit.int .i64 x.Kind).wf = true ∧ (Lit.int .i64 x.N).wf = true ∧ (Lit.int .i64 x.Unit).wf = true
def GTenor.wf (x:GTenor):Prop:=I64 x.Kind ∧ I64 x.N ∧ I64 x.Unit
theorem GTenor.TV_wf (w:World) (x:GTenor) (cs:List Value) (h:GTenor.TV w x cs):GTenor.wf x:=by
 obtain ⟨e,q0,q1,q2⟩:=h
 exact ⟨wf_i64 q0,wf_i64 q1,wf_i64 q2⟩
theorem GTenor.rds:Rds GTenor.TV GTenor.cells 3:=fun w x cs h=>by
 obtain ⟨e,q0,q1,q2⟩:=h
 subst e
 exact ⟨RdC.cons (.int _ _) rfl (RdC.cons (.int _ _) rfl (RdC.cons (.int _ _) rfl (RdC.nil _))),rfl⟩
theorem opens_GTenor:Opens Try.prog 33 GTenor.TV:=fun H enc w base sp held fuel cs x h hL=>by
 obtain ⟨xs,n,hfuel,hxx,hlen,hxl,hf⟩:=DataW.trod_struct Try.underlying33 h
 subst hxx
 have hl:cs.length = 3:=hlen.trans (by kernel_rfl)
 match cs,hl with
 | [c0,c1,c2],_ =>
  obtain ⟨y0,hy0⟩ : ∃ y,xs[0]? = some y:=⟨xs[0]'(by rw [hxl]; simp),by simp⟩
  have f0:DataW.trod enc Try.prog w base sp held n 3 ((List.drop 0 [c0,c1,c2]).take (Try.prog.cellsOf 3)) = some y0:=(hf 0 _ rfl).trans hy0
  rw [show Try.prog.cellsOf 3 = 1 from by kernel_rfl] at f0
  have g0:=Light.part (P:=Try.prog) Try.underlying33 (i:=0) rfl hy0 hL
  obtain ⟨d0,t0⟩:=(opens_int Try.underlying3) H enc w base sp held n _ _ f0 g0
  obtain ⟨y1,hy1⟩ : ∃ y,xs[1]? = some y:=⟨xs[1]'(by rw [hxl]; simp),by simp⟩
  have f1:DataW.trod enc Try.prog w base sp held n 3 ((List.drop 1 [c0,c1,c2]).take (Try.prog.cellsOf 3)) = some y1:=(hf 1 _ rfl).trans hy1
  rw [show Try.prog.cellsOf 3 = 1 from by kernel_rfl] at f1
  have g1:=Light.part (P:=Try.prog) Try.underlying33 (i:=1) rfl hy1 hL
  obtain ⟨d1,t1⟩:=(opens_int Try.underlying3) H enc w base sp held n _ _ f1 g1
  obtain ⟨y2,hy2⟩ : ∃ y,xs[2]? = some y:=⟨xs[2]'(by rw [hxl]; simp),by simp⟩
  have f2:DataW.trod enc Try.prog w base sp held n 3 ((List.drop 2 [c0,c1,c2]).take (Try.prog.cellsOf 3)) = some y2:=(hf 2 _ rfl).trans hy2
  rw [show Try.prog.cellsOf 3 = 1 from by kernel_rfl] at f2
  have g2:=Light.part (P:=Try.prog) Try.underlying33 (i:=2) rfl hy2 hL
  obtain ⟨d2,t2⟩:=(opens_int Try.underlying3) H enc w base sp held n _ _ f2 g2
  obtain ⟨e0,q0⟩:=t0
  obtain ⟨e1,q1⟩:=t1
  obtain ⟨e2,q2⟩:=t2
  simp at e0 e1 e2
  exact ⟨⟨d0,d1,d2⟩,by simp [e0,e1,e2],q0,q1,q2⟩
def GBill.TV (w:World) (x:GBill) (cs:List Value):Prop :=
 cs = [.int .i64 x.Drawer,.int .i64 x.Drawee,.int .i64 x.Payee,.int .i64 x.Sum,.int .i64 x.Currency,.int .i64 x.Tenor.Kind,.int .i64 x.Tenor.N,.int .i64 x.Tenor.Unit,.int .i64 x.Day,.int .i64 x.City,.int .i64 x.Pay,.int .i64 x.Need,.int .i64 x.Rate,.int .i64 x.Flags,.int .i64 x.Parts] ∧ (Lit.int .i64 x.Drawer).wf = true ∧ (Lit.int .i64 x.Drawee).wf = true ∧ (Lit.int .i64 x.Payee).wf = true ∧ (Lit.int .i64 x.Sum).wf = true ∧ (Lit.int .i64 x.Currency).wf = true ∧ (Lit.int .i64 x.Tenor.Kind).wf = true ∧ (Lit.int .i64 x.Tenor.N).wf = true ∧ (Lit.int .i64 x.Tenor.Unit).wf = true ∧ (Lit.int .i64 x.Day).wf = true ∧ (Lit.int .i64 x.City).wf = true ∧ (Lit.int .i64 x.Pay).wf = true ∧ (Lit.int .i64 x.Need).wf = true ∧ (Lit.int .i64 x.Rate).wf = true ∧ (Lit.int .i64 x.Flags).wf = true ∧ (Lit.int .i64 x.Parts).wf = true
def GBill.wf (x:GBill):Prop:=I64 x.Drawer ∧ I64 x.Drawee ∧ I64 x.Payee ∧ I64 x.Sum ∧ I64 x.Currency ∧ GTenor.wf x.Tenor ∧ I64 x.Day ∧ I64 x.City ∧ I64 x.Pay ∧ I64 x.Need ∧ I64 x.Rate ∧ I64 x.Flags ∧ I64 x.Parts
theorem GBill.TV_wf (w:World) (x:GBill) (cs:List Value) (h:GBill.TV w x cs):GBill.wf x:=by
 obtain ⟨e,q0,q1,q2,q3,q4,q5,q6,q7,q8,q9,q10,q11,q12,q13,q14⟩:=h
 exact ⟨wf_i64 q0,wf_i64 q1,wf_i64 q2,wf_i64 q3,wf_i64 q4,⟨wf_i64 q5,wf_i64 q6,wf_i64 q7⟩,wf_i64 q8,wf_i64 q9,wf_i64 q10,wf_i64 q11,wf_i64 q12,wf_i64 q13,wf_i64 q14⟩
theorem GBill.rds:Rds GBill.TV GBill.cells 15:=fun w x cs h=>by
 obtain ⟨e,q0,q1,q2,q3,q4,q5,q6,q7,q8,q9,q10,q11,q12,q13,q14⟩:=h
 subst e
 exact ⟨RdC.cons (.int _ _) rfl (RdC.cons (.int _ _) rfl (RdC.cons (.int _ _) rfl (RdC.cons (.int _ _) rfl (RdC.cons (.int _ _) rfl (RdC.cons (.int _ _) rfl (RdC.cons (.int _ _) rfl (RdC.cons (.int _ _) rfl (RdC.cons (.int _ _) rfl (RdC.cons (.int _ _) rfl (RdC.cons (.int _ _) rfl (RdC.cons (.int _ _) rfl (RdC.cons (.int _ _) rfl (RdC.cons (.int _ _) rfl (RdC.cons (.int _ _) rfl (RdC.nil _))))))))))))))),rfl⟩
theorem opens_GBill:Opens Try.prog 35 GBill.TV:=fun H enc w base sp held fuel cs x h hL=>by
 obtain ⟨xs,n,hfuel,hxx,hlen,hxl,hf⟩:=DataW.trod_struct Try.underlying35 h
 subst hxx
 have hl:cs.length = 15:=hlen.trans (by kernel_rfl)
 match cs,hl with
 | [c0,c1,c2,c3,c4,c5,c6,c7,c8,c9,c10,c11,c12,c13,c14],_ =>
  obtain ⟨y0,hy0⟩ : ∃ y,xs[0]? = some y:=⟨xs[0]'(by rw [hxl]; simp),by simp⟩
  have f0:DataW.trod enc Try.prog w base sp held n 3 ((List.drop 0 [c0,c1,c2,c3,c4,c5,c6,c7,c8,c9,c10,c11,c12,c13,c14]).take (Try.prog.cellsOf 3)) = some y0:=(hf 0 _ rfl).trans hy0
  rw [show Try.prog.cellsOf 3 = 1 from by kernel_rfl] at f0
  have g0:=Light.part (P:=Try.prog) Try.underlying35 (i:=0) rfl hy0 hL
  obtain ⟨d0,t0⟩:=(opens_int Try.underlying3) H enc w base sp held n _ _ f0 g0
  obtain ⟨y1,hy1⟩ : ∃ y,xs[1]? = some y:=⟨xs[1]'(by rw [hxl]; simp),by simp⟩
  have f1:DataW.trod enc Try.prog w base sp held n 3 ((List.drop 1 [c0,c1,c2,c3,c4,c5,c6,c7,c8,c9,c10,c11,c12,c13,c14]).take (Try.prog.cellsOf 3)) = some y1:=(hf 1 _ rfl).trans hy1
  rw [show Try.prog.cellsOf 3 = 1 from by kernel_rfl] at f1
  have g1:=Light.part (P:=Try.prog) Try.underlying35 (i:=1) rfl hy1 hL
  obtain ⟨d1,t1⟩:=(opens_int Try.underlying3) H enc w base sp held n _ _ f1 g1
  obtain ⟨y2,hy2⟩ : ∃ y,xs[2]? = some y:=⟨xs[2]'(by rw [hxl]; simp),by simp⟩
  have f2:DataW.trod enc Try.prog w base sp held n 3 ((List.drop 2 [c0,c1,c2,c3,c4,c5,c6,c7,c8,c9,c10,c11,c12,c13,c14]).take (Try.prog.cellsOf 3)) = some y2:=(hf 2 _ rfl).trans hy2
  rw [show Try.prog.cellsOf 3 = 1 from by kernel_rfl] at f2
  have g2:=Light.part (P:=Try.prog) Try.underlying35 (i:=2) rfl hy2 hL
  obtain ⟨d2,t2⟩:=(opens_int Try.underlying3) H enc w base sp held n _ _ f2 g2
  obtain ⟨y3,hy3⟩ : ∃ y,xs[3]? = some y:=⟨xs[3]'(by rw [hxl]; simp),by simp⟩
  have f3:DataW.trod enc Try.prog w base sp held n 3 ((List.drop 3 [c0,c1,c2,c3,c4,c5,c6,c7,c8,c9,c10,c11,c12,c13,c14]).take (Try.prog.cellsOf 3)) = some y3:=(hf 3 _ rfl).trans hy3
  rw [show Try.prog.cellsOf 3 = 1 from by kernel_rfl] at f3
  have g3:=Light.part (P:=Try.prog) Try.underlying35 (i:=3) rfl hy3 hL
  obtain ⟨d3,t3⟩:=(opens_int Try.underlying3) H enc w base sp held n _ _ f3 g3
  obtain ⟨y4,hy4⟩ : ∃ y,xs[4]? = some y:=⟨xs[4]'(by rw [hxl]; simp),by simp⟩
  have f4:DataW.trod enc Try.prog w base sp held n 3 ((List.drop 4 [c0,c1,c2,c3,c4,c5,c6,c7,c8,c9,c10,c11,c12,c13,c14]).take (Try.prog.cellsOf 3)) = some y4:=(hf 4 _ rfl).trans hy4
  rw [show Try.prog.cellsOf 3 = 1 from by kernel_rfl] at f4
  have g4:=Light.part (P:=Try.prog) Try.underlying35 (i:=4) rfl hy4 hL
  obtain ⟨d4,t4⟩:=(opens_int Try.underlying3) H enc w base sp held n _ _ f4 g4
  obtain ⟨y5,hy5⟩ : ∃ y,xs[5]? = some y:=⟨xs[5]'(by rw [hxl]; simp),by simp⟩
  have f5:DataW.trod enc Try.prog w base sp held n 33 ((List.drop 5 [c0,c1,c2,c3,c4,c5,c6,c7,c8,c9,c10,c11,c12,c13,c14]).take (Try.prog.cellsOf 33)) = some y5:=(hf 5 _ rfl).trans hy5
  rw [show Try.prog.cellsOf 33 = 3 from by kernel_rfl] at f5
  have g5:=Light.part (P:=Try.prog) Try.underlying35 (i:=5) rfl hy5 hL
  obtain ⟨d5,t5⟩:=opens_GTenor H enc w base sp held n _ _ f5 g5
  obtain ⟨y6,hy6⟩ : ∃ y,xs[6]? = some y:=⟨xs[6]'(by rw [hxl]; simp),by simp⟩
  have f6:DataW.trod enc Try.prog w base sp held n 3 ((List.drop 8 [c0,c1,c2,c3,c4,c5,c6,c7,c8,c9,c10,c11,c12,c13,c14]).take (Try.prog.cellsOf 3)) = some y6:=(hf 6 _ rfl).trans hy6
  rw [show Try.prog.cellsOf 3 = 1 from by kernel_rfl] at f6
  have g6:=Light.part (P:=Try.prog) Try.underlying35 (i:=6) rfl hy6 hL
  obtain ⟨d6,t6⟩:=(opens_int Try.underlying3) H enc w base sp held n _ _ f6 g6
  obtain ⟨y7,hy7⟩ : ∃ y,xs[7]? = some y:=⟨xs[7]'(by rw [hxl]; simp),by simp⟩
  have f7:DataW.trod enc Try.prog w base sp held n 3 ((List.drop 9 [c0,c1,c2,c3,c4,c5,c6,c7,c8,c9,c10,c11,c12,c13,c14]).take (Try.prog.cellsOf 3)) = some y7:=(hf 7 _ rfl).trans hy7
  rw [show Try.prog.cellsOf 3 = 1 from by kernel_rfl] at f7
  have g7:=Light.part (P:=Try.prog) Try.underlying35 (i:=7) rfl hy7 hL
  obtain ⟨d7,t7⟩:=(opens_int Try.underlying3) H enc w base sp held n _ _ f7 g7
  obtain ⟨y8,hy8⟩ : ∃ y,xs[8]? = some y:=⟨xs[8]'(by rw [hxl]; simp),by simp⟩
  have f8:DataW.trod enc Try.prog w base sp held n 3 ((List.drop 10 [c0,c1,c2,c3,c4,c5,c6,c7,c8,c9,c10,c11,c12,c13,c14]).take (Try.prog.cellsOf 3)) = some y8:=(hf 8 _ rfl).trans hy8
  rw [show Try.prog.cellsOf 3 = 1 from by kernel_rfl] at f8
  have g8:=Light.part (P:=Try.prog) Try.underlying35 (i:=8) rfl hy8 hL
  obtain ⟨d8,t8⟩:=(opens_int Try.underlying3) H enc w base sp held n _ _ f8 g8
  obtain ⟨y9,hy9⟩ : ∃ y,xs[9]? = some y:=⟨xs[9]'(by rw [hxl]; simp),by simp⟩
  have f9:DataW.trod enc Try.prog w base sp held n 3 ((List.drop 11 [c0,c1,c2,c3,c4,c5,c6,c7,c8,c9,c10,c11,c12,c13,c14]).take (Try.prog.cellsOf 3)) = some y9:=(hf 9 _ rfl).trans hy9
  rw [show Try.prog.cellsOf 3 = 1 from by kernel_rfl] at f9
  have g9:=Light.part (P:=Try.prog) Try.underlying35 (i:=9) rfl hy9 hL
  obtain ⟨d9,t9⟩:=(opens_int Try.underlying3) H enc w base sp held n _ _ f9 g9
  obtain ⟨y10,hy10⟩ : ∃ y,xs[10]? = some y:=⟨xs[10]'(by rw [hxl]; simp),by simp⟩
  have f10:DataW.trod enc Try.prog w base sp held n 3 ((List.drop 12 [c0,c1,c2,c3,c4,c5,c6,c7,c8,c9,c10,c11,c12,c13,c14]).take (Try.prog.cellsOf 3)) = some y10:=(hf 10 _ rfl).trans hy10
  rw [show Try.prog.cellsOf 3 = 1 from by kernel_rfl] at f10
  have g10:=Light.part (P:=Try.prog) Try.underlying35 (i:=10) rfl hy10 hL
  obtain ⟨d10,t10⟩:=(opens_int Try.underlying3) H enc w base sp held n _ _ f10 g10
  obtain ⟨y11,hy11⟩ : ∃ y,xs[11]? = some y:=⟨xs[11]'(by rw [hxl]; simp),by simp⟩
  have f11:DataW.trod enc Try.prog w base sp held n 3 ((List.drop 13 [c0,c1,c2,c3,c4,c5,c6,c7,c8,c9,c10,c11,c12,c13,c14]).take (Try.prog.cellsOf 3)) = some y11:=(hf 11 _ rfl).trans hy11
  rw [show Try.prog.cellsOf 3 = 1 from by kernel_rfl] at f11
  have g11:=Light.part (P:=Try.prog) Try.underlying35 (i:=11) rfl hy11 hL
  obtain ⟨d11,t11⟩:=(opens_int Try.underlying3) H enc w base sp held n _ _ f11 g11
  obtain ⟨y12,hy12⟩ : ∃ y,xs[12]? = some y:=⟨xs[12]'(by rw [hxl]; simp),by simp⟩
  have f12:DataW.trod enc Try.prog w base sp held n 3 ((List.drop 14 [c0,c1,c2,c3,c4,c5,c6,c7,c8,c9,c10,c11,c12,c13,c14]).take (Try.prog.cellsOf 3)) = some y12:=(hf 12 _ rfl).trans hy12
  rw [show Try.prog.cellsOf 3 = 1 from by kernel_rfl] at f12
  have g12:=Light.part (P:=Try.prog) Try.underlying35 (i:=12) rfl hy12 hL
  obtain ⟨d12,t12⟩:=(opens_int Try.underlying3) H enc w base sp held n _ _ f12 g12
  obtain ⟨e0,q0⟩:=t0
  obtain ⟨e1,q1⟩:=t1
  obtain ⟨e2,q2⟩:=t2
  obtain ⟨e3,q3⟩:=t3
  obtain ⟨e4,q4⟩:=t4
  obtain ⟨e5,q5_0,q5_1,q5_2⟩:=t5
  obtain ⟨e6,q6⟩:=t6
  obtain ⟨e7,q7⟩:=t7
  obtain ⟨e8,q8⟩:=t8
  obtain ⟨e9,q9⟩:=t9
  obtain ⟨e10,q10⟩:=t10
  obtain ⟨e11,q11⟩:=t11
  obtain ⟨e12,q12⟩:=t12
  simp at e0 e1 e2 e3 e4 e5 e6 e7 e8 e9 e10 e11 e12
  exact ⟨⟨d0,d1,d2,d3,d4,d5,d6,d7,d8,d9,d10,d11,d12⟩,by simp [e0,e1,e2,e3,e4,e5,e6,e7,e8,e9,e10,e11,e12],q0,q1,q2,q3,q4,q5_0,q5_1,q5_2,q6,q7,q8,q9,q10,q11,q12⟩
def GSign.TV (w:World) (x:GSign) (cs:List Value):Prop :=
 cs = [.int .i64 x.Kind,.int .i64 x.Part,.int .i64 x.Who,.int .i64 x.For,.int .i64 x.To,.int .i64 x.Sum,.int .i64 x.Day,.int .i64 x.City,.int .i64 x.Flags] ∧ (Lit.int .i64 x.Kind).wf = true ∧ (Lit.int .i64 x.Part).wf = true ∧ (Lit.int .i64 x.Who).wf = true ∧ (Lit.int .i64 x.For).wf = true ∧ (Lit.int .i64 x.To).wf = true ∧ (Lit.int .i64 x.Sum).wf = true ∧ (Lit.int .i64 x.Day).wf = true ∧ (Lit.int .i64 x.City).wf = true ∧ (Lit.int .i64 x.Flags).wf = true
def GSign.wf (x:GSign):Prop:=I64 x.Kind ∧ I64 x.Part ∧ I64 x.Who ∧ I64 x.For ∧ I64 x.To ∧ I64 x.Sum ∧ I64 x.Day ∧ I64 x.City ∧ I64 x.Flags
theorem GSign.TV_wf (w:World) (x:GSign) (cs:List Value) (h:GSign.TV w x cs):GSign.wf x:=by
 obtain ⟨e,q0,q1,q2,q3,q4,q5,q6,q7,q8⟩:=h
 exact ⟨wf_i64 q0,wf_i64 q1,wf_i64 q2,wf_i64 q3,wf_i64 q4,wf_i64 q5,wf_i64 q6,wf_i64 q7,wf_i64 q8⟩
theorem GSign.rds:Rds GSign.TV GSign.cells 9:=fun w x cs h=>by
 obtain ⟨e,q0,q1,q2,q3,q4,q5,q6,q7,q8⟩:=h
 subst e
 exact ⟨RdC.cons (.int _ _) rfl (RdC.cons (.int _ _) rfl (RdC.cons (.int _ _) rfl (RdC.cons (.int _ _) rfl (RdC.cons (.int _ _) rfl (RdC.cons (.int _ _) rfl (RdC.cons (.int _ _) rfl (RdC.cons (.int _ _) rfl (RdC.cons (.int _ _) rfl (RdC.nil _))))))))),rfl⟩
theorem opens_GSign:Opens Try.prog 66 GSign.TV:=fun H enc w base sp held fuel cs x h hL=>by
 obtain ⟨xs,n,hfuel,hxx,hlen,hxl,hf⟩:=DataW.trod_struct Try.underlying66 h
 subst hxx
 have hl:cs.length = 9:=hlen.trans (by kernel_rfl)
 match cs,hl with
 | [c0,c1,c2,c3,c4,c5,c6,c7,c8],_ =>
  obtain ⟨y0,hy0⟩ : ∃ y,xs[0]? = some y:=⟨xs[0]'(by rw [hxl]; simp),by simp⟩
  have f0:DataW.trod enc Try.prog w base sp held n 3 ((List.drop 0 [c0,c1,c2,c3,c4,c5,c6,c7,c8]).take (Try.prog.cellsOf 3)) = some y0:=(hf 0 _ rfl).trans hy0
  rw [show Try.prog.cellsOf 3 = 1 from by kernel_rfl] at f0
  have g0:=Light.part (P:=Try.prog) Try.underlying66 (i:=0) rfl hy0 hL
  obtain ⟨d0,t0⟩:=(opens_int Try.underlying3) H enc w base sp held n _ _ f0 g0
  obtain ⟨y1,hy1⟩ : ∃ y,xs[1]? = some y:=⟨xs[1]'(by rw [hxl]; simp),by simp⟩
  have f1:DataW.trod enc Try.prog w base sp held n 3 ((List.drop 1 [c0,c1,c2,c3,c4,c5,c6,c7,c8]).take (Try.prog.cellsOf 3)) = some y1:=(hf 1 _ rfl).trans hy1
  rw [show Try.prog.cellsOf 3 = 1 from by kernel_rfl] at f1
  have g1:=Light.part (P:=Try.prog) Try.underlying66 (i:=1) rfl hy1 hL
  obtain ⟨d1,t1⟩:=(opens_int Try.underlying3) H enc w base sp held n _ _ f1 g1
  obtain ⟨y2,hy2⟩ : ∃ y,xs[2]? = some y:=⟨xs[2]'(by rw [hxl]; simp),by simp⟩
  have f2:DataW.trod enc Try.prog w base sp held n 3 ((List.drop 2 [c0,c1,c2,c3,c4,c5,c6,c7,c8]).take (Try.prog.cellsOf 3)) = some y2:=(hf 2 _ rfl).trans hy2
  rw [show Try.prog.cellsOf 3 = 1 from by kernel_rfl] at f2
  have g2:=Light.part (P:=Try.prog) Try.underlying66 (i:=2) rfl hy2 hL
  obtain ⟨d2,t2⟩:=(opens_int Try.underlying3) H enc w base sp held n _ _ f2 g2
  obtain ⟨y3,hy3⟩ : ∃ y,xs[3]? = some y:=⟨xs[3]'(by rw [hxl]; simp),by simp⟩
  have f3:DataW.trod enc Try.prog w base sp held n 3 ((List.drop 3 [c0,c1,c2,c3,c4,c5,c6,c7,c8]).take (Try.prog.cellsOf 3)) = some y3:=(hf 3 _ rfl).trans hy3
  rw [show Try.prog.cellsOf 3 = 1 from by kernel_rfl] at f3
  have g3:=Light.part (P:=Try.prog) Try.underlying66 (i:=3) rfl hy3 hL
  obtain ⟨d3,t3⟩:=(opens_int Try.underlying3) H enc w base sp held n _ _ f3 g3
  obtain ⟨y4,hy4⟩ : ∃ y,xs[4]? = some y:=⟨xs[4]'(by rw [hxl]; simp),by simp⟩
  have f4:DataW.trod enc Try.prog w base sp held n 3 ((List.drop 4 [c0,c1,c2,c3,c4,c5,c6,c7,c8]).take (Try.prog.cellsOf 3)) = some y4:=(hf 4 _ rfl).trans hy4
  rw [show Try.prog.cellsOf 3 = 1 from by kernel_rfl] at f4
  have g4:=Light.part (P:=Try.prog) Try.underlying66 (i:=4) rfl hy4 hL
  obtain ⟨d4,t4⟩:=(opens_int Try.underlying3) H enc w base sp held n _ _ f4 g4
  obtain ⟨y5,hy5⟩ : ∃ y,xs[5]? = some y:=⟨xs[5]'(by rw [hxl]; simp),by simp⟩
  have f5:DataW.trod enc Try.prog w base sp held n 3 ((List.drop 5 [c0,c1,c2,c3,c4,c5,c6,c7,c8]).take (Try.prog.cellsOf 3)) = some y5:=(hf 5 _ rfl).trans hy5
  rw [show Try.prog.cellsOf 3 = 1 from by kernel_rfl] at f5
  have g5:=Light.part (P:=Try.prog) Try.underlying66 (i:=5) rfl hy5 hL
  obtain ⟨d5,t5⟩:=(opens_int Try.underlying3) H enc w base sp held n _ _ f5 g5
  obtain ⟨y6,hy6⟩ : ∃ y,xs[6]? = some y:=⟨xs[6]'(by rw [hxl]; simp),by simp⟩
  have f6:DataW.trod enc Try.prog w base sp held n 3 ((List.drop 6 [c0,c1,c2,c3,c4,c5,c6,c7,c8]).take (Try.prog.cellsOf 3)) = some y6:=(hf 6 _ rfl).trans hy6
  rw [show Try.prog.cellsOf 3 = 1 from by kernel_rfl] at f6
  have g6:=Light.part (P:=Try.prog) Try.underlying66 (i:=6) rfl hy6 hL
  obtain ⟨d6,t6⟩:=(opens_int Try.underlying3) H enc w base sp held n _ _ f6 g6
  obtain ⟨y7,hy7⟩ : ∃ y,xs[7]? = some y:=⟨xs[7]'(by rw [hxl]; simp),by simp⟩
  have f7:DataW.trod enc Try.prog w base sp held n 3 ((List.drop 7 [c0,c1,c2,c3,c4,c5,c6,c7,c8]).take (Try.prog.cellsOf 3)) = some y7:=(hf 7 _ rfl).trans hy7
  rw [show Try.prog.cellsOf 3 = 1 from by kernel_rfl] at f7
  have g7:=Light.part (P:=Try.prog) Try.underlying66 (i:=7) rfl hy7 hL
  obtain ⟨d7,t7⟩:=(opens_int Try.underlying3) H enc w base sp held n _ _ f7 g7
  obtain ⟨y8,hy8⟩ : ∃ y,xs[8]? = some y:=⟨xs[8]'(by rw [hxl]; simp),by simp⟩
  have f8:DataW.trod enc Try.prog w base sp held n 3 ((List.drop 8 [c0,c1,c2,c3,c4,c5,c6,c7,c8]).take (Try.prog.cellsOf 3)) = some y8:=(hf 8 _ rfl).trans hy8
  rw [show Try.prog.cellsOf 3 = 1 from by kernel_rfl] at f8
  have g8:=Light.part (P:=Try.prog) Try.underlying66 (i:=8) rfl hy8 hL
  obtain ⟨d8,t8⟩:=(opens_int Try.underlying3) H enc w base sp held n _ _ f8 g8
  obtain ⟨e0,q0⟩:=t0
  obtain ⟨e1,q1⟩:=t1
  obtain ⟨e2,q2⟩:=t2
  obtain ⟨e3,q3⟩:=t3
  obtain ⟨e4,q4⟩:=t4
  obtain ⟨e5,q5⟩:=t5
  obtain ⟨e6,q6⟩:=t6
  obtain ⟨e7,q7⟩:=t7
  obtain ⟨e8,q8⟩:=t8
  simp at e0 e1 e2 e3 e4 e5 e6 e7 e8
  exact ⟨⟨d0,d1,d2,d3,d4,d5,d6,d7,d8⟩,by simp [e0,e1,e2,e3,e4,e5,e6,e7,e8],q0,q1,q2,q3,q4,q5,q6,q7,q8⟩
def GAlter.TV (w:World) (x:GAlter) (cs:List Value):Prop :=
 cs = [.int .i64 x.At,.int .i64 x.Sum] ∧ (Lit.int .i64 x.At).wf = true ∧ (Lit.int .i64 x.Sum).wf = true
def GAlter.wf (x:GAlter):Prop:=I64 x.At ∧ I64 x.Sum
theorem GAlter.TV_wf (w:World) (x:GAlter) (cs:List Value) (h:GAlter.TV w x cs):GAlter.wf x:=by
 obtain ⟨e,q0,q1⟩:=h
 exact ⟨wf_i64 q0,wf_i64 q1⟩
theorem GAlter.rds:Rds GAlter.TV GAlter.cells 2:=fun w x cs h=>by
 obtain ⟨e,q0,q1⟩:=h
 subst e
 exact ⟨RdC.cons (.int _ _) rfl (RdC.cons (.int _ _) rfl (RdC.nil _)),rfl⟩
theorem opens_GAlter:Opens Try.prog 72 GAlter.TV:=fun H enc w base sp held fuel cs x h hL=>by
 obtain ⟨xs,n,hfuel,hxx,hlen,hxl,hf⟩:=DataW.trod_struct Try.underlying72 h
 subst hxx
 have hl:cs.length = 2:=hlen.trans (by kernel_rfl)
 match cs,hl with
 | [c0,c1],_ =>
  obtain ⟨y0,hy0⟩ : ∃ y,xs[0]? = some y:=⟨xs[0]'(by rw [hxl]; simp),by simp⟩
  have f0:DataW.trod enc Try.prog w base sp held n 3 ((List.drop 0 [c0,c1]).take (Try.prog.cellsOf 3)) = some y0:=(hf 0 _ rfl).trans hy0
  rw [show Try.prog.cellsOf 3 = 1 from by kernel_rfl] at f0
  have g0:=Light.part (P:=Try.prog) Try.underlying72 (i:=0) rfl hy0 hL
  obtain ⟨d0,t0⟩:=(opens_int Try.underlying3) H enc w base sp held n _ _ f0 g0
  obtain ⟨y1,hy1⟩ : ∃ y,xs[1]? = some y:=⟨xs[1]'(by rw [hxl]; simp),by simp⟩
  have f1:DataW.trod enc Try.prog w base sp held n 3 ((List.drop 1 [c0,c1]).take (Try.prog.cellsOf 3)) = some y1:=(hf 1 _ rfl).trans hy1
  rw [show Try.prog.cellsOf 3 = 1 from by kernel_rfl] at f1
  have g1:=Light.part (P:=Try.prog) Try.underlying72 (i:=1) rfl hy1 hL
  obtain ⟨d1,t1⟩:=(opens_int Try.underlying3) H enc w base sp held n _ _ f1 g1
  obtain ⟨e0,q0⟩:=t0
  obtain ⟨e1,q1⟩:=t1
  simp at e0 e1
  exact ⟨⟨d0,d1⟩,by simp [e0,e1],q0,q1⟩
def GAct.TV (w:World) (x:GAct) (cs:List Value):Prop :=
 cs = [.int .i64 x.Kind,.int .i64 x.Who,.int .i64 x.To,.int .i64 x.Part,.int .i64 x.At,.int .i64 x.Sum,.int .i64 x.Day,.int .i64 x.City,.int .i64 x.Form] ∧ (Lit.int .i64 x.Kind).wf = true ∧ (Lit.int .i64 x.Who).wf = true ∧ (Lit.int .i64 x.To).wf = true ∧ (Lit.int .i64 x.Part).wf = true ∧ (Lit.int .i64 x.At).wf = true ∧ (Lit.int .i64 x.Sum).wf = true ∧ (Lit.int .i64 x.Day).wf = true ∧ (Lit.int .i64 x.City).wf = true ∧ (Lit.int .i64 x.Form).wf = true
def GAct.wf (x:GAct):Prop:=I64 x.Kind ∧ I64 x.Who ∧ I64 x.To ∧ I64 x.Part ∧ I64 x.At ∧ I64 x.Sum ∧ I64 x.Day ∧ I64 x.City ∧ I64 x.Form
theorem GAct.TV_wf (w:World) (x:GAct) (cs:List Value) (h:GAct.TV w x cs):GAct.wf x:=by
 obtain ⟨e,q0,q1,q2,q3,q4,q5,q6,q7,q8⟩:=h
 exact ⟨wf_i64 q0,wf_i64 q1,wf_i64 q2,wf_i64 q3,wf_i64 q4,wf_i64 q5,wf_i64 q6,wf_i64 q7,wf_i64 q8⟩
theorem GAct.rds:Rds GAct.TV GAct.cells 9:=fun w x cs h=>by
 obtain ⟨e,q0,q1,q2,q3,q4,q5,q6,q7,q8⟩:=h
 subst e
 exact ⟨RdC.cons (.int _ _) rfl (RdC.cons (.int _ _) rfl (RdC.cons (.int _ _) rfl (RdC.cons (.int _ _) rfl (RdC.cons (.int _ _) rfl (RdC.cons (.int _ _) rfl (RdC.cons (.int _ _) rfl (RdC.cons (.int _ _) rfl (RdC.cons (.int _ _) rfl (RdC.nil _))))))))),rfl⟩
theorem opens_GAct:Opens Try.prog 81 GAct.TV:=fun H enc w base sp held fuel cs x h hL=>by
 obtain ⟨xs,n,hfuel,hxx,hlen,hxl,hf⟩:=DataW.trod_struct Try.underlying81 h
 subst hxx
 have hl:cs.length = 9:=hlen.trans (by kernel_rfl)
 match cs,hl with
 | [c0,c1,c2,c3,c4,c5,c6,c7,c8],_ =>
  obtain ⟨y0,hy0⟩ : ∃ y,xs[0]? = some y:=⟨xs[0]'(by rw [hxl]; simp),by simp⟩
  have f0:DataW.trod enc Try.prog w base sp held n 3 ((List.drop 0 [c0,c1,c2,c3,c4,c5,c6,c7,c8]).take (Try.prog.cellsOf 3)) = some y0:=(hf 0 _ rfl).trans hy0
  rw [show Try.prog.cellsOf 3 = 1 from by kernel_rfl] at f0
  have g0:=Light.part (P:=Try.prog) Try.underlying81 (i:=0) rfl hy0 hL
  obtain ⟨d0,t0⟩:=(opens_int Try.underlying3) H enc w base sp held n _ _ f0 g0
  obtain ⟨y1,hy1⟩ : ∃ y,xs[1]? = some y:=⟨xs[1]'(by rw [hxl]; simp),by simp⟩
  have f1:DataW.trod enc Try.prog w base sp held n 3 ((List.drop 1 [c0,c1,c2,c3,c4,c5,c6,c7,c8]).take (Try.prog.cellsOf 3)) = some y1:=(hf 1 _ rfl).trans hy1
  rw [show Try.prog.cellsOf 3 = 1 from by kernel_rfl] at f1
  have g1:=Light.part (P:=Try.prog) Try.underlying81 (i:=1) rfl hy1 hL
  obtain ⟨d1,t1⟩:=(opens_int Try.underlying3) H enc w base sp held n _ _ f1 g1
  obtain ⟨y2,hy2⟩ : ∃ y,xs[2]? = some y:=⟨xs[2]'(by rw [hxl]; simp),by simp⟩
  have f2:DataW.trod enc Try.prog w base sp held n 3 ((List.drop 2 [c0,c1,c2,c3,c4,c5,c6,c7,c8]).take (Try.prog.cellsOf 3)) = some y2:=(hf 2 _ rfl).trans hy2
  rw [show Try.prog.cellsOf 3 = 1 from by kernel_rfl] at f2
  have g2:=Light.part (P:=Try.prog) Try.underlying81 (i:=2) rfl hy2 hL
  obtain ⟨d2,t2⟩:=(opens_int Try.underlying3) H enc w base sp held n _ _ f2 g2
  obtain ⟨y3,hy3⟩ : ∃ y,xs[3]? = some y:=⟨xs[3]'(by rw [hxl]; simp),by simp⟩
  have f3:DataW.trod enc Try.prog w base sp held n 3 ((List.drop 3 [c0,c1,c2,c3,c4,c5,c6,c7,c8]).take (Try.prog.cellsOf 3)) = some y3:=(hf 3 _ rfl).trans hy3
  rw [show Try.prog.cellsOf 3 = 1 from by kernel_rfl] at f3
  have g3:=Light.part (P:=Try.prog) Try.underlying81 (i:=3) rfl hy3 hL
  obtain ⟨d3,t3⟩:=(opens_int Try.underlying3) H enc w base sp held n _ _ f3 g3
  obtain ⟨y4,hy4⟩ : ∃ y,xs[4]? = some y:=⟨xs[4]'(by rw [hxl]; simp),by simp⟩
  have f4:DataW.trod enc Try.prog w base sp held n 3 ((List.drop 4 [c0,c1,c2,c3,c4,c5,c6,c7,c8]).take (Try.prog.cellsOf 3)) = some y4:=(hf 4 _ rfl).trans hy4
  rw [show Try.prog.cellsOf 3 = 1 from by kernel_rfl] at f4
  have g4:=Light.part (P:=Try.prog) Try.underlying81 (i:=4) rfl hy4 hL
  obtain ⟨d4,t4⟩:=(opens_int Try.underlying3) H enc w base sp held n _ _ f4 g4
  obtain ⟨y5,hy5⟩ : ∃ y,xs[5]? = some y:=⟨xs[5]'(by rw [hxl]; simp),by simp⟩
  have f5:DataW.trod enc Try.prog w base sp held n 3 ((List.drop 5 [c0,c1,c2,c3,c4,c5,c6,c7,c8]).take (Try.prog.cellsOf 3)) = some y5:=(hf 5 _ rfl).trans hy5
  rw [show Try.prog.cellsOf 3 = 1 from by kernel_rfl] at f5
  have g5:=Light.part (P:=Try.prog) Try.underlying81 (i:=5) rfl hy5 hL
  obtain ⟨d5,t5⟩:=(opens_int Try.underlying3) H enc w base sp held n _ _ f5 g5
  obtain ⟨y6,hy6⟩ : ∃ y,xs[6]? = some y:=⟨xs[6]'(by rw [hxl]; simp),by simp⟩
  have f6:DataW.trod enc Try.prog w base sp held n 3 ((List.drop 6 [c0,c1,c2,c3,c4,c5,c6,c7,c8]).take (Try.prog.cellsOf 3)) = some y6:=(hf 6 _ rfl).trans hy6
  rw [show Try.prog.cellsOf 3 = 1 from by kernel_rfl] at f6
  have g6:=Light.part (P:=Try.prog) Try.underlying81 (i:=6) rfl hy6 hL
  obtain ⟨d6,t6⟩:=(opens_int Try.underlying3) H enc w base sp held n _ _ f6 g6
  obtain ⟨y7,hy7⟩ : ∃ y,xs[7]? = some y:=⟨xs[7]'(by rw [hxl]; simp),by simp⟩
  have f7:DataW.trod enc Try.prog w base sp held n 3 ((List.drop 7 [c0,c1,c2,c3,c4,c5,c6,c7,c8]).take (Try.prog.cellsOf 3)) = some y7:=(hf 7 _ rfl).trans hy7
  rw [show Try.prog.cellsOf 3 = 1 from by kernel_rfl] at f7
  have g7:=Light.part (P:=Try.prog) Try.underlying81 (i:=7) rfl hy7 hL
  obtain ⟨d7,t7⟩:=(opens_int Try.underlying3) H enc w base sp held n _ _ f7 g7
  obtain ⟨y8,hy8⟩ : ∃ y,xs[8]? = some y:=⟨xs[8]'(by rw [hxl]; simp),by simp⟩
  have f8:DataW.trod enc Try.prog w base sp held n 3 ((List.drop 8 [c0,c1,c2,c3,c4,c5,c6,c7,c8]).take (Try.prog.cellsOf 3)) = some y8:=(hf 8 _ rfl).trans hy8
  rw [show Try.prog.cellsOf 3 = 1 from by kernel_rfl] at f8
  have g8:=Light.part (P:=Try.prog) Try.underlying81 (i:=8) rfl hy8 hL
  obtain ⟨d8,t8⟩:=(opens_int Try.underlying3) H enc w base sp held n _ _ f8 g8
  obtain ⟨e0,q0⟩:=t0
  obtain ⟨e1,q1⟩:=t1
  obtain ⟨e2,q2⟩:=t2
  obtain ⟨e3,q3⟩:=t3
  obtain ⟨e4,q4⟩:=t4
  obtain ⟨e5,q5⟩:=t5
  obtain ⟨e6,q6⟩:=t6
  obtain ⟨e7,q7⟩:=t7
  obtain ⟨e8,q8⟩:=t8
  simp at e0 e1 e2 e3 e4 e5 e6 e7 e8
  exact ⟨⟨d0,d1,d2,d3,d4,d5,d6,d7,d8⟩,by simp [e0,e1,e2,e3,e4,e5,e6,e7,e8],q0,q1,q2,q3,q4,q5,q6,q7,q8⟩
def GFact.TV (w:World) (x:GFact) (cs:List Value):Prop :=
 cs = [.int .i64 x.Kind,.int .i64 x.At,.int .i64 x.N] ∧ (Lit.int .i64 x.Kind).wf = true ∧ (Lit.int .i64 x.At).wf = true ∧ (Lit.int .i64 x.N).wf = true
def GFact.wf (x:GFact):Prop:=I64 x.Kind ∧ I64 x.At ∧ I64 x.N
theorem GFact.TV_wf (w:World) (x:GFact) (cs:List Value) (h:GFact.TV w x cs):GFact.wf x:=by
 obtain ⟨e,q0,q1,q2⟩:=h
 exact ⟨wf_i64 q0,wf_i64 q1,wf_i64 q2⟩
theorem GFact.rds:Rds GFact.TV GFact.cells 3:=fun w x cs h=>by
 obtain ⟨e,q0,q1,q2⟩:=h
 subst e
 exact ⟨RdC.cons (.int _ _) rfl (RdC.cons (.int _ _) rfl (RdC.cons (.int _ _) rfl (RdC.nil _))),rfl⟩
theorem opens_GFact:Opens Try.prog 58 GFact.TV:=fun H enc w base sp held fuel cs x h hL=>by
 obtain ⟨xs,n,hfuel,hxx,hlen,hxl,hf⟩:=DataW.trod_struct Try.underlying58 h
 subst hxx
 have hl:cs.length = 3:=hlen.trans (by kernel_rfl)
 match cs,hl with
 | [c0,c1,c2],_ =>
  obtain ⟨y0,hy0⟩ : ∃ y,xs[0]? = some y:=⟨xs[0]'(by rw [hxl]; simp),by simp⟩
  have f0:DataW.trod enc Try.prog w base sp held n 3 ((List.drop 0 [c0,c1,c2]).take (Try.prog.cellsOf 3)) = some y0:=(hf 0 _ rfl).trans hy0
  rw [show Try.prog.cellsOf 3 = 1 from by kernel_rfl] at f0
  have g0:=Light.part (P:=Try.prog) Try.underlying58 (i:=0) rfl hy0 hL
  obtain ⟨d0,t0⟩:=(opens_int Try.underlying3) H enc w base sp held n _ _ f0 g0
  obtain ⟨y1,hy1⟩ : ∃ y,xs[1]? = some y:=⟨xs[1]'(by rw [hxl]; simp),by simp⟩
  have f1:DataW.trod enc Try.prog w base sp held n 3 ((List.drop 1 [c0,c1,c2]).take (Try.prog.cellsOf 3)) = some y1:=(hf 1 _ rfl).trans hy1
  rw [show Try.prog.cellsOf 3 = 1 from by kernel_rfl] at f1
  have g1:=Light.part (P:=Try.prog) Try.underlying58 (i:=1) rfl hy1 hL
  obtain ⟨d1,t1⟩:=(opens_int Try.underlying3) H enc w base sp held n _ _ f1 g1
  obtain ⟨y2,hy2⟩ : ∃ y,xs[2]? = some y:=⟨xs[2]'(by rw [hxl]; simp),by simp⟩
  have f2:DataW.trod enc Try.prog w base sp held n 3 ((List.drop 2 [c0,c1,c2]).take (Try.prog.cellsOf 3)) = some y2:=(hf 2 _ rfl).trans hy2
  rw [show Try.prog.cellsOf 3 = 1 from by kernel_rfl] at f2
  have g2:=Light.part (P:=Try.prog) Try.underlying58 (i:=2) rfl hy2 hL
  obtain ⟨d2,t2⟩:=(opens_int Try.underlying3) H enc w base sp held n _ _ f2 g2
  obtain ⟨e0,q0⟩:=t0
  obtain ⟨e1,q1⟩:=t1
  obtain ⟨e2,q2⟩:=t2
  simp at e0 e1 e2
  exact ⟨⟨d0,d1,d2⟩,by simp [e0,e1,e2],q0,q1,q2⟩
def GFile.TV (w:World) (x:GFile) (cs:List Value):Prop :=
 ∃ v0 v1 v2 v3:Value,cs = [.int .i64 x.Bill.Drawer,.int .i64 x.Bill.Drawee,.int .i64 x.Bill.Payee,.int .i64 x.Bill.Sum,.int .i64 x.Bill.Currency,.int .i64 x.Bill.Tenor.Kind,.int .i64 x.Bill.Tenor.N,.int .i64 x.Bill.Tenor.Unit,.int .i64 x.Bill.Day,.int .i64 x.Bill.City,.int .i64 x.Bill.Pay,.int .i64 x.Bill.Need,.int .i64 x.Bill.Rate,.int .i64 x.Bill.Flags,.int .i64 x.Bill.Parts,v0,v1,v2,v3] ∧ (Lit.int .i64 x.Bill.Drawer).wf = true ∧ (Lit.int .i64 x.Bill.Drawee).wf = true ∧ (Lit.int .i64 x.Bill.Payee).wf = true ∧ (Lit.int .i64 x.Bill.Sum).wf = true ∧ (Lit.int .i64 x.Bill.Currency).wf = true ∧ (Lit.int .i64 x.Bill.Tenor.Kind).wf = true ∧ (Lit.int .i64 x.Bill.Tenor.N).wf = true ∧ (Lit.int .i64 x.Bill.Tenor.Unit).wf = true ∧ (Lit.int .i64 x.Bill.Day).wf = true ∧ (Lit.int .i64 x.Bill.City).wf = true ∧ (Lit.int .i64 x.Bill.Pay).wf = true ∧ (Lit.int .i64 x.Bill.Need).wf = true ∧ (Lit.int .i64 x.Bill.Rate).wf = true ∧ (Lit.int .i64 x.Bill.Flags).wf = true ∧ (Lit.int .i64 x.Bill.Parts).wf = true ∧ Sq w GSign.TV 9 72 v0 x.Signs ∧ Sq w GAlter.TV 2 16 v1 x.Alters ∧ Sq w GAct.TV 9 72 v2 x.Acts ∧ Sq w GFact.TV 3 24 v3 x.Facts
def GFile.wf (x:GFile):Prop:=GBill.wf x.Bill ∧ Wl GSign.wf x.Signs ∧ Wl GAlter.wf x.Alters ∧ Wl GAct.wf x.Acts ∧ Wl GFact.wf x.Facts
theorem GFile.TV_wf (w:World) (x:GFile) (cs:List Value) (h:GFile.TV w x cs):GFile.wf x:=by
 obtain ⟨v0,v1,v2,v3,e,q0,q1,q2,q3,q4,q5,q6,q7,q8,q9,q10,q11,q12,q13,q14,q15,q16,q17,q18⟩:=h
 exact ⟨⟨wf_i64 q0,wf_i64 q1,wf_i64 q2,wf_i64 q3,wf_i64 q4,⟨wf_i64 q5,wf_i64 q6,wf_i64 q7⟩,wf_i64 q8,wf_i64 q9,wf_i64 q10,wf_i64 q11,wf_i64 q12,wf_i64 q13,wf_i64 q14⟩,q15.wl GSign.TV_wf,q16.wl GAlter.TV_wf,q17.wl GAct.TV_wf,q18.wl GFact.TV_wf⟩
theorem GFile.rds:Rds GFile.TV GFile.cells 19:=fun w x cs h=>by
 obtain ⟨v0,v1,v2,v3,e,q0,q1,q2,q3,q4,q5,q6,q7,q8,q9,q10,q11,q12,q13,q14,q15,q16,q17,q18⟩:=h
 subst e
 exact ⟨RdC.cons (.int _ _) rfl (RdC.cons (.int _ _) rfl (RdC.cons (.int _ _) rfl (RdC.cons (.int _ _) rfl (RdC.cons (.int _ _) rfl (RdC.cons (.int _ _) rfl (RdC.cons (.int _ _) rfl (RdC.cons (.int _ _) rfl (RdC.cons (.int _ _) rfl (RdC.cons (.int _ _) rfl (RdC.cons (.int _ _) rfl (RdC.cons (.int _ _) rfl (RdC.cons (.int _ _) rfl (RdC.cons (.int _ _) rfl (RdC.cons (.int _ _) rfl (RdC.cons (q15.reads GSign.rds) rfl (RdC.cons (q16.reads GAlter.rds) rfl (RdC.cons (q17.reads GAct.rds) rfl (RdC.cons (q18.reads GFact.rds) rfl (RdC.nil _))))))))))))))))))),rfl⟩
theorem opens_GFile:Opens Try.prog 41 GFile.TV:=fun H enc w base sp held fuel cs x h hL=>by
 obtain ⟨xs,n,hfuel,hxx,hlen,hxl,hf⟩:=DataW.trod_struct Try.underlying41 h
 subst hxx
 have hl:cs.length = 19:=hlen.trans (by kernel_rfl)
 match cs,hl with
 | [c0,c1,c2,c3,c4,c5,c6,c7,c8,c9,c10,c11,c12,c13,c14,c15,c16,c17,c18],_ =>
  obtain ⟨y0,hy0⟩ : ∃ y,xs[0]? = some y:=⟨xs[0]'(by rw [hxl]; simp),by simp⟩
  have f0:DataW.trod enc Try.prog w base sp held n 35 ((List.drop 0 [c0,c1,c2,c3,c4,c5,c6,c7,c8,c9,c10,c11,c12,c13,c14,c15,c16,c17,c18]).take (Try.prog.cellsOf 35)) = some y0:=(hf 0 _ rfl).trans hy0
  rw [show Try.prog.cellsOf 35 = 15 from by kernel_rfl] at f0
  have g0:=Light.part (P:=Try.prog) Try.underlying41 (i:=0) rfl hy0 hL
  obtain ⟨d0,t0⟩:=opens_GBill H enc w base sp held n _ _ f0 g0
  obtain ⟨y1,hy1⟩ : ∃ y,xs[1]? = some y:=⟨xs[1]'(by rw [hxl]; simp),by simp⟩
  have f1:DataW.trod enc Try.prog w base sp held n 36 ((List.drop 15 [c0,c1,c2,c3,c4,c5,c6,c7,c8,c9,c10,c11,c12,c13,c14,c15,c16,c17,c18]).take (Try.prog.cellsOf 36)) = some y1:=(hf 1 _ rfl).trans hy1
  rw [show Try.prog.cellsOf 36 = 1 from by kernel_rfl] at f1
  have g1:=Light.part (P:=Try.prog) Try.underlying41 (i:=1) rfl hy1 hL
  obtain ⟨d1,t1⟩:=(opens_slice (k:=9) (bt:=72) Try.underlying36 (by kernel_rfl) (by kernel_rfl) (by omega) opens_GSign) H enc w base sp held n _ _ f1 g1
  obtain ⟨y2,hy2⟩ : ∃ y,xs[2]? = some y:=⟨xs[2]'(by rw [hxl]; simp),by simp⟩
  have f2:DataW.trod enc Try.prog w base sp held n 37 ((List.drop 16 [c0,c1,c2,c3,c4,c5,c6,c7,c8,c9,c10,c11,c12,c13,c14,c15,c16,c17,c18]).take (Try.prog.cellsOf 37)) = some y2:=(hf 2 _ rfl).trans hy2
  rw [show Try.prog.cellsOf 37 = 1 from by kernel_rfl] at f2
  have g2:=Light.part (P:=Try.prog) Try.underlying41 (i:=2) rfl hy2 hL
  obtain ⟨d2,t2⟩:=(opens_slice (k:=2) (bt:=16) Try.underlying37 (by kernel_rfl) (by kernel_rfl) (by omega) opens_GAlter) H enc w base sp held n _ _ f2 g2
  obtain ⟨y3,hy3⟩ : ∃ y,xs[3]? = some y:=⟨xs[3]'(by rw [hxl]; simp),by simp⟩
  have f3:DataW.trod enc Try.prog w base sp held n 38 ((List.drop 17 [c0,c1,c2,c3,c4,c5,c6,c7,c8,c9,c10,c11,c12,c13,c14,c15,c16,c17,c18]).take (Try.prog.cellsOf 38)) = some y3:=(hf 3 _ rfl).trans hy3
  rw [show Try.prog.cellsOf 38 = 1 from by kernel_rfl] at f3
  have g3:=Light.part (P:=Try.prog) Try.underlying41 (i:=3) rfl hy3 hL
  obtain ⟨d3,t3⟩:=(opens_slice (k:=9) (bt:=72) Try.underlying38 (by kernel_rfl) (by kernel_rfl) (by omega) opens_GAct) H enc w base sp held n _ _ f3 g3
  obtain ⟨y4,hy4⟩ : ∃ y,xs[4]? = some y:=⟨xs[4]'(by rw [hxl]; simp),by simp⟩
  have f4:DataW.trod enc Try.prog w base sp held n 39 ((List.drop 18 [c0,c1,c2,c3,c4,c5,c6,c7,c8,c9,c10,c11,c12,c13,c14,c15,c16,c17,c18]).take (Try.prog.cellsOf 39)) = some y4:=(hf 4 _ rfl).trans hy4
  rw [show Try.prog.cellsOf 39 = 1 from by kernel_rfl] at f4
  have g4:=Light.part (P:=Try.prog) Try.underlying41 (i:=4) rfl hy4 hL
  obtain ⟨d4,t4⟩:=(opens_slice (k:=3) (bt:=24) Try.underlying39 (by kernel_rfl) (by kernel_rfl) (by omega) opens_GFact) H enc w base sp held n _ _ f4 g4
  obtain ⟨e0,q0_0,q0_1,q0_2,q0_3,q0_4,q0_5,q0_6,q0_7,q0_8,q0_9,q0_10,q0_11,q0_12,q0_13,q0_14⟩:=t0
  obtain ⟨u1,e1,q1⟩:=t1
  obtain ⟨u2,e2,q2⟩:=t2
  obtain ⟨u3,e3,q3⟩:=t3
  obtain ⟨u4,e4,q4⟩:=t4
  simp at e0 e1 e2 e3 e4
  exact ⟨⟨d0,d1,d2,d3,d4⟩,u1,u2,u3,u4,by simp [e0,e1,e2,e3,e4],q0_0,q0_1,q0_2,q0_3,q0_4,q0_5,q0_6,q0_7,q0_8,q0_9,q0_10,q0_11,q0_12,q0_13,q0_14,q1,q2,q3,q4⟩
def GCase.TV (w:World) (x:GCase) (cs:List Value):Prop :=
 ∃ v0 v1 v2 v3:Value,cs = [.int .i64 x.File.Bill.Drawer,.int .i64 x.File.Bill.Drawee,.int .i64 x.File.Bill.Payee,.int .i64 x.File.Bill.Sum,.int .i64 x.File.Bill.Currency,.int .i64 x.File.Bill.Tenor.Kind,.int .i64 x.File.Bill.Tenor.N,.int .i64 x.File.Bill.Tenor.Unit,.int .i64 x.File.Bill.Day,.int .i64 x.File.Bill.City,.int .i64 x.File.Bill.Pay,.int .i64 x.File.Bill.Need,.int .i64 x.File.Bill.Rate,.int .i64 x.File.Bill.Flags,.int .i64 x.File.Bill.Parts,v0,v1,v2,v3,.int .i64 x.Sign,.int .i64 x.Holder,.int .i64 x.Defence,.int .i64 x.Due,.int .i64 x.Day] ∧ (Lit.int .i64 x.File.Bill.Drawer).wf = true ∧ (Lit.int .i64 x.File.Bill.Drawee).wf = true ∧ (Lit.int .i64 x.File.Bill.Payee).wf = true ∧ (Lit.int .i64 x.File.Bill.Sum).wf = true ∧ (Lit.int .i64 x.File.Bill.Currency).wf = true ∧ (Lit.int .i64 x.File.Bill.Tenor.Kind).wf = true ∧ (Lit.int .i64 x.File.Bill.Tenor.N).wf = true ∧ (Lit.int .i64 x.File.Bill.Tenor.Unit).wf = true ∧ (Lit.int .i64 x.File.Bill.Day).wf = true ∧ (Lit.int .i64 x.File.Bill.City).wf = true ∧ (Lit.int .i64 x.File.Bill.Pay).wf = true ∧ (Lit.int .i64 x.File.Bill.Need).wf = true ∧ (Lit.int .i64 x.File.Bill.Rate).wf = true ∧ (Lit.int .i64 x.File.Bill.Flags).wf = true ∧ (Lit.int .i64 x.File.Bill.Parts).wf = true ∧ Sq w GSign.TV 9 72 v0 x.File.Signs ∧ Sq w GAlter.TV 2 16 v1 x.File.Alters ∧ Sq w GAct.TV 9 72 v2 x.File.Acts ∧ Sq w GFact.TV 3 24 v3 x.File.Facts ∧ (Lit.int .i64 x.Sign).wf = true ∧ (Lit.int .i64 x.Holder).wf = true ∧ (Lit.int .i64 x.Defence).wf = true ∧ (Lit.int .i64 x.Due).wf = true ∧ (Lit.int .i64 x.Day).wf = true
def GCase.wf (x:GCase):Prop:=GFile.wf x.File ∧ I64 x.Sign ∧ I64 x.Holder ∧ I64 x.Defence ∧ I64 x.Due ∧ I64 x.Day
theorem GCase.TV_wf (w:World) (x:GCase) (cs:List Value) (h:GCase.TV w x cs):GCase.wf x:=by
 obtain ⟨v0,v1,v2,v3,e,q0,q1,q2,q3,q4,q5,q6,q7,q8,q9,q10,q11,q12,q13,q14,q15,q16,q17,q18,q19,q20,q21,q22,q23⟩:=h
 exact ⟨⟨⟨wf_i64 q0,wf_i64 q1,wf_i64 q2,wf_i64 q3,wf_i64 q4,⟨wf_i64 q5,wf_i64 q6,wf_i64 q7⟩,wf_i64 q8,wf_i64 q9,wf_i64 q10,wf_i64 q11,wf_i64 q12,wf_i64 q13,wf_i64 q14⟩,q15.wl GSign.TV_wf,q16.wl GAlter.TV_wf,q17.wl GAct.TV_wf,q18.wl GFact.TV_wf⟩,wf_i64 q19,wf_i64 q20,wf_i64 q21,wf_i64 q22,wf_i64 q23⟩
theorem GCase.rds:Rds GCase.TV GCase.cells 24:=fun w x cs h=>by
 obtain ⟨v0,v1,v2,v3,e,q0,q1,q2,q3,q4,q5,q6,q7,q8,q9,q10,q11,q12,q13,q14,q15,q16,q17,q18,q19,q20,q21,q22,q23⟩:=h
 subst e
 exact ⟨RdC.cons (.int _ _) rfl (RdC.cons (.int _ _) rfl (RdC.cons (.int _ _) rfl (RdC.cons (.int _ _) rfl (RdC.cons (.int _ _) rfl (RdC.cons (.int _ _) rfl (RdC.cons (.int _ _) rfl (RdC.cons (.int _ _) rfl (RdC.cons (.int _ _) rfl (RdC.cons (.int _ _) rfl (RdC.cons (.int _ _) rfl (RdC.cons (.int _ _) rfl (RdC.cons (.int _ _) rfl (RdC.cons (.int _ _) rfl (RdC.cons (.int _ _) rfl (RdC.cons (q15.reads GSign.rds) rfl (RdC.cons (q16.reads GAlter.rds) rfl (RdC.cons (q17.reads GAct.rds) rfl (RdC.cons (q18.reads GFact.rds) rfl (RdC.cons (.int _ _) rfl (RdC.cons (.int _ _) rfl (RdC.cons (.int _ _) rfl (RdC.cons (.int _ _) rfl (RdC.cons (.int _ _) rfl (RdC.nil _)))))))))))))))))))))))),rfl⟩
theorem opens_GCase:Opens Try.prog 43 GCase.TV:=fun H enc w base sp held fuel cs x h hL=>by
 obtain ⟨xs,n,hfuel,hxx,hlen,hxl,hf⟩:=DataW.trod_struct Try.underlying43 h
 subst hxx
 have hl:cs.length = 24:=hlen.trans (by kernel_rfl)
 match cs,hl with
 | [c0,c1,c2,c3,c4,c5,c6,c7,c8,c9,c10,c11,c12,c13,c14,c15,c16,c17,c18,c19,c20,c21,c22,c23],_ =>
  obtain ⟨y0,hy0⟩ : ∃ y,xs[0]? = some y:=⟨xs[0]'(by rw [hxl]; simp),by simp⟩
  have f0:DataW.trod enc Try.prog w base sp held n 41 ((List.drop 0 [c0,c1,c2,c3,c4,c5,c6,c7,c8,c9,c10,c11,c12,c13,c14,c15,c16,c17,c18,c19,c20,c21,c22,c23]).take (Try.prog.cellsOf 41)) = some y0:=(hf 0 _ rfl).trans hy0
  rw [show Try.prog.cellsOf 41 = 19 from by kernel_rfl] at f0
  have g0:=Light.part (P:=Try.prog) Try.underlying43 (i:=0) rfl hy0 hL
  obtain ⟨d0,t0⟩:=opens_GFile H enc w base sp held n _ _ f0 g0
  obtain ⟨y1,hy1⟩ : ∃ y,xs[1]? = some y:=⟨xs[1]'(by rw [hxl]; simp),by simp⟩
  have f1:DataW.trod enc Try.prog w base sp held n 3 ((List.drop 19 [c0,c1,c2,c3,c4,c5,c6,c7,c8,c9,c10,c11,c12,c13,c14,c15,c16,c17,c18,c19,c20,c21,c22,c23]).take (Try.prog.cellsOf 3)) = some y1:=(hf 1 _ rfl).trans hy1
  rw [show Try.prog.cellsOf 3 = 1 from by kernel_rfl] at f1
  have g1:=Light.part (P:=Try.prog) Try.underlying43 (i:=1) rfl hy1 hL
  obtain ⟨d1,t1⟩:=(opens_int Try.underlying3) H enc w base sp held n _ _ f1 g1
  obtain ⟨y2,hy2⟩ : ∃ y,xs[2]? = some y:=⟨xs[2]'(by rw [hxl]; simp),by simp⟩
  have f2:DataW.trod enc Try.prog w base sp held n 3 ((List.drop 20 [c0,c1,c2,c3,c4,c5,c6,c7,c8,c9,c10,c11,c12,c13,c14,c15,c16,c17,c18,c19,c20,c21,c22,c23]).take (Try.prog.cellsOf 3)) = some y2:=(hf 2 _ rfl).trans hy2
  rw [show Try.prog.cellsOf 3 = 1 from by kernel_rfl] at f2
  have g2:=Light.part (P:=Try.prog) Try.underlying43 (i:=2) rfl hy2 hL
  obtain ⟨d2,t2⟩:=(opens_int Try.underlying3) H enc w base sp held n _ _ f2 g2
  obtain ⟨y3,hy3⟩ : ∃ y,xs[3]? = some y:=⟨xs[3]'(by rw [hxl]; simp),by simp⟩
  have f3:DataW.trod enc Try.prog w base sp held n 3 ((List.drop 21 [c0,c1,c2,c3,c4,c5,c6,c7,c8,c9,c10,c11,c12,c13,c14,c15,c16,c17,c18,c19,c20,c21,c22,c23]).take (Try.prog.cellsOf 3)) = some y3:=(hf 3 _ rfl).trans hy3
  rw [show Try.prog.cellsOf 3 = 1 from by kernel_rfl] at f3
  have g3:=Light.part (P:=Try.prog) Try.underlying43 (i:=3) rfl hy3 hL
  obtain ⟨d3,t3⟩:=(opens_int Try.underlying3) H enc w base sp held n _ _ f3 g3
  obtain ⟨y4,hy4⟩ : ∃ y,xs[4]? = some y:=⟨xs[4]'(by rw [hxl]; simp),by simp⟩
  have f4:DataW.trod enc Try.prog w base sp held n 3 ((List.drop 22 [c0,c1,c2,c3,c4,c5,c6,c7,c8,c9,c10,c11,c12,c13,c14,c15,c16,c17,c18,c19,c20,c21,c22,c23]).take (Try.prog.cellsOf 3)) = some y4:=(hf 4 _ rfl).trans hy4
  rw [show Try.prog.cellsOf 3 = 1 from by kernel_rfl] at f4
  have g4:=Light.part (P:=Try.prog) Try.underlying43 (i:=4) rfl hy4 hL
  obtain ⟨d4,t4⟩:=(opens_int Try.underlying3) H enc w base sp held n _ _ f4 g4
  obtain ⟨y5,hy5⟩ : ∃ y,xs[5]? = some y:=⟨xs[5]'(by rw [hxl]; simp),by simp⟩
  have f5:DataW.trod enc Try.prog w base sp held n 3 ((List.drop 23 [c0,c1,c2,c3,c4,c5,c6,c7,c8,c9,c10,c11,c12,c13,c14,c15,c16,c17,c18,c19,c20,c21,c22,c23]).take (Try.prog.cellsOf 3)) = some y5:=(hf 5 _ rfl).trans hy5
  rw [show Try.prog.cellsOf 3 = 1 from by kernel_rfl] at f5
  have g5:=Light.part (P:=Try.prog) Try.underlying43 (i:=5) rfl hy5 hL
  obtain ⟨d5,t5⟩:=(opens_int Try.underlying3) H enc w base sp held n _ _ f5 g5
  obtain ⟨u0_0,u0_1,u0_2,u0_3,e0,q0_0,q0_1,q0_2,q0_3,q0_4,q0_5,q0_6,q0_7,q0_8,q0_9,q0_10,q0_11,q0_12,q0_13,q0_14,q0_15,q0_16,q0_17,q0_18⟩:=t0
  obtain ⟨e1,q1⟩:=t1
  obtain ⟨e2,q2⟩:=t2
  obtain ⟨e3,q3⟩:=t3
  obtain ⟨e4,q4⟩:=t4
  obtain ⟨e5,q5⟩:=t5
  simp at e0 e1 e2 e3 e4 e5
  exact ⟨⟨d0,d1,d2,d3,d4,d5⟩,u0_0,u0_1,u0_2,u0_3,by simp [e0,e1,e2,e3,e4,e5],q0_0,q0_1,q0_2,q0_3,q0_4,q0_5,q0_6,q0_7,q0_8,q0_9,q0_10,q0_11,q0_12,q0_13,q0_14,q0_15,q0_16,q0_17,q0_18,q1,q2,q3,q4,q5⟩
end Go.Proofs.Ytfhebiceipgdmaa
