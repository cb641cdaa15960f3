/- How what a law is handed reads. Printed by a program. -/
import Derived.Test.YtlpgfmnicomjjaaVmG
import Derived.Test.YtlpgfmnicomjjaaTab
import Derived.KernelRfl
set_option linter.unusedVariables false
set_option maxRecDepth 100000
namespace Go.Proofs.Ytlpgfmnicomjjaa
open Go.RowKit Go.ChangeShapes Go.WideShapes Go.Deep Vm
def GCity.TV (w:World) (x:GCity) (cs:List Value):Prop :=
 ∃ v0 v1 v2:Value,cs = [.string x.Name,.int .i64 x.Order,.int .i64 x.Currency,v0,v1,v2] ∧ x.Name.size ≤ maxLen ∧ (Lit.int .i64 x.Order).wf = true ∧ (Lit.int .i64 x.Currency).wf = true ∧ Sq w IntTV 1 8 v0 x.Rest ∧ Sq w IntTV 1 8 v1 x.Feasts ∧ Sq w IntTV 1 8 v2 x.Shut
def GCity.wf (x:GCity):Prop:=Ws x.Name ∧ I64 x.Order ∧ I64 x.Currency ∧ Wl I64 x.Rest ∧ Wl I64 x.Feasts ∧ Wl I64 x.Shut
theorem GCity.TV_wf (w:World) (x:GCity) (cs:List Value) (h:GCity.TV w x cs):GCity.wf x:=by
 obtain ⟨v0,v1,v2,e,q0,q1,q2,q3,q4,q5⟩:=h
 exact ⟨ws_of q0,wf_i64 q1,wf_i64 q2,q3.wl (fun w x cs h=>wf_i64 h.2),q4.wl (fun w x cs h=>wf_i64 h.2),q5.wl (fun w x cs h=>wf_i64 h.2)⟩
theorem GCity.rds:Rds GCity.TV GCity.cells 6:=fun w x cs h=>by
 obtain ⟨v0,v1,v2,e,q0,q1,q2,q3,q4,q5⟩:=h
 subst e
 exact ⟨RdC.cons (.str _ q0) rfl (RdC.cons (.int _ _) rfl (RdC.cons (.int _ _) rfl (RdC.cons (q3.reads rds_int) rfl (RdC.cons (q4.reads rds_int) rfl (RdC.cons (q5.reads rds_int) rfl (RdC.nil _)))))),rfl⟩
theorem opens_GCity:Opens Try.prog 100 GCity.TV:=fun H enc w base sp held fuel cs x h hL=>by
 obtain ⟨xs,n,hfuel,hxx,hlen,hxl,hf⟩:=DataW.trod_struct Try.underlying100 h
 subst hxx
 have hl:cs.length = 6:=hlen.trans (by kernel_rfl)
 match cs,hl with
 | [c0,c1,c2,c3,c4,c5],_ =>
  obtain ⟨y0,hy0⟩ : ∃ y,xs[0]? = some y:=⟨xs[0]'(by rw [hxl]; simp),by simp⟩
  have f0:DataW.trod enc Try.prog w base sp held n 9 ((List.drop 0 [c0,c1,c2,c3,c4,c5]).take (Try.prog.cellsOf 9)) = some y0:=(hf 0 _ rfl).trans hy0
  rw [show Try.prog.cellsOf 9 = 1 from by kernel_rfl] at f0
  have g0:=Light.part (P:=Try.prog) Try.underlying100 (i:=0) rfl hy0 hL
  obtain ⟨d0,t0⟩:=(opens_str Try.underlying9) H enc w base sp held n _ _ f0 g0
  obtain ⟨y1,hy1⟩ : ∃ y,xs[1]? = some y:=⟨xs[1]'(by rw [hxl]; simp),by simp⟩
  have f1:DataW.trod enc Try.prog w base sp held n 3 ((List.drop 1 [c0,c1,c2,c3,c4,c5]).take (Try.prog.cellsOf 3)) = some y1:=(hf 1 _ rfl).trans hy1
  rw [show Try.prog.cellsOf 3 = 1 from by kernel_rfl] at f1
  have g1:=Light.part (P:=Try.prog) Try.underlying100 (i:=1) rfl hy1 hL
  obtain ⟨d1,t1⟩:=(opens_int Try.underlying3) H enc w base sp held n _ _ f1 g1
  obtain ⟨y2,hy2⟩ : ∃ y,xs[2]? = some y:=⟨xs[2]'(by rw [hxl]; simp),by simp⟩
  have f2:DataW.trod enc Try.prog w base sp held n 3 ((List.drop 2 [c0,c1,c2,c3,c4,c5]).take (Try.prog.cellsOf 3)) = some y2:=(hf 2 _ rfl).trans hy2
  rw [show Try.prog.cellsOf 3 = 1 from by kernel_rfl] at f2
  have g2:=Light.part (P:=Try.prog) Try.underlying100 (i:=2) rfl hy2 hL
  obtain ⟨d2,t2⟩:=(opens_int Try.underlying3) H enc w base sp held n _ _ f2 g2
  obtain ⟨y3,hy3⟩ : ∃ y,xs[3]? = some y:=⟨xs[3]'(by rw [hxl]; simp),by simp⟩
  have f3:DataW.trod enc Try.prog w base sp held n 32 ((List.drop 3 [c0,c1,c2,c3,c4,c5]).take (Try.prog.cellsOf 32)) = some y3:=(hf 3 _ rfl).trans hy3
  rw [show Try.prog.cellsOf 32 = 1 from by kernel_rfl] at f3
  have g3:=Light.part (P:=Try.prog) Try.underlying100 (i:=3) rfl hy3 hL
  obtain ⟨d3,t3⟩:=(opens_slice (k:=1) (bt:=8) Try.underlying32 (by kernel_rfl) (by kernel_rfl) (by omega) (opens_int Try.underlying3)) H enc w base sp held n _ _ f3 g3
  obtain ⟨y4,hy4⟩ : ∃ y,xs[4]? = some y:=⟨xs[4]'(by rw [hxl]; simp),by simp⟩
  have f4:DataW.trod enc Try.prog w base sp held n 32 ((List.drop 4 [c0,c1,c2,c3,c4,c5]).take (Try.prog.cellsOf 32)) = some y4:=(hf 4 _ rfl).trans hy4
  rw [show Try.prog.cellsOf 32 = 1 from by kernel_rfl] at f4
  have g4:=Light.part (P:=Try.prog) Try.underlying100 (i:=4) rfl hy4 hL
  obtain ⟨d4,t4⟩:=(opens_slice (k:=1) (bt:=8) Try.underlying32 (by kernel_rfl) (by kernel_rfl) (by omega) (opens_int Try.underlying3)) H enc w base sp held n _ _ f4 g4
  obtain ⟨y5,hy5⟩ : ∃ y,xs[5]? = some y:=⟨xs[5]'(by rw [hxl]; simp),by simp⟩
  have f5:DataW.trod enc Try.prog w base sp held n 32 ((List.drop 5 [c0,c1,c2,c3,c4,c5]).take (Try.prog.cellsOf 32)) = some y5:=(hf 5 _ rfl).trans hy5
  rw [show Try.prog.cellsOf 32 = 1 from by kernel_rfl] at f5
  have g5:=Light.part (P:=Try.prog) Try.underlying100 (i:=5) rfl hy5 hL
  obtain ⟨d5,t5⟩:=(opens_slice (k:=1) (bt:=8) Try.underlying32 (by kernel_rfl) (by kernel_rfl) (by omega) (opens_int Try.underlying3)) H enc w base sp held n _ _ f5 g5
  obtain ⟨e0,q0⟩:=t0
  obtain ⟨e1,q1⟩:=t1
  obtain ⟨e2,q2⟩:=t2
  obtain ⟨u3,e3,q3⟩:=t3
  obtain ⟨u4,e4,q4⟩:=t4
  obtain ⟨u5,e5,q5⟩:=t5
  simp at e0 e1 e2 e3 e4 e5
  exact ⟨⟨d0,d1,d2,d3,d4,d5⟩,u3,u4,u5,by simp [e0,e1,e2,e3,e4,e5],q0,q1,q2,q3,q4,q5⟩
def GGroup.TV (w:World) (x:GGroup) (cs:List Value):Prop :=
 cs = [.int .i64 x.Grade] ∧ (Lit.int .i64 x.Grade).wf = true
def GGroup.wf (x:GGroup):Prop:=I64 x.Grade
theorem GGroup.TV_wf (w:World) (x:GGroup) (cs:List Value) (h:GGroup.TV w x cs):GGroup.wf x:=by
 obtain ⟨e,q0⟩:=h
 exact wf_i64 q0
theorem GGroup.rds:Rds GGroup.TV GGroup.cells 1:=fun w x cs h=>by
 obtain ⟨e,q0⟩:=h
 subst e
 exact ⟨RdC.cons (.int _ _) rfl (RdC.nil _),rfl⟩
theorem opens_GGroup:Opens Try.prog 107 GGroup.TV:=fun H enc w base sp held fuel cs x h hL=>by
 obtain ⟨xs,n,hfuel,hxx,hlen,hxl,hf⟩:=DataW.trod_struct Try.underlying107 h
 subst hxx
 have hl:cs.length = 1:=hlen.trans (by kernel_rfl)
 match cs,hl with
 | [c0],_ =>
  obtain ⟨y0,hy0⟩ : ∃ y,xs[0]? = some y:=⟨xs[0]'(by rw [hxl]; simp),by simp⟩
  have f0:DataW.trod enc Try.prog w base sp held n 3 ((List.drop 0 [c0]).take (Try.prog.cellsOf 3)) = some y0:=(hf 0 _ rfl).trans hy0
  rw [show Try.prog.cellsOf 3 = 1 from by kernel_rfl] at f0
  have g0:=Light.part (P:=Try.prog) Try.underlying107 (i:=0) rfl hy0 hL
  obtain ⟨d0,t0⟩:=(opens_int Try.underlying3) H enc w base sp held n _ _ f0 g0
  obtain ⟨e0,q0⟩:=t0
  simp at e0
  exact ⟨⟨d0⟩,by simp [e0],q0⟩
def GFirm.TV (w:World) (x:GFirm) (cs:List Value):Prop :=
 cs = [.string x.Name,.int .i64 x.City,.int .i64 x.Group] ∧ x.Name.size ≤ maxLen ∧ (Lit.int .i64 x.City).wf = true ∧ (Lit.int .i64 x.Group).wf = true
def GFirm.wf (x:GFirm):Prop:=Ws x.Name ∧ I64 x.City ∧ I64 x.Group
theorem GFirm.TV_wf (w:World) (x:GFirm) (cs:List Value) (h:GFirm.TV w x cs):GFirm.wf x:=by
 obtain ⟨e,q0,q1,q2⟩:=h
 exact ⟨ws_of q0,wf_i64 q1,wf_i64 q2⟩
theorem GFirm.rds:Rds GFirm.TV GFirm.cells 3:=fun w x cs h=>by
 obtain ⟨e,q0,q1,q2⟩:=h
 subst e
 exact ⟨RdC.cons (.str _ q0) rfl (RdC.cons (.int _ _) rfl (RdC.cons (.int _ _) rfl (RdC.nil _))),rfl⟩
theorem opens_GFirm:Opens Try.prog 110 GFirm.TV:=fun H enc w base sp held fuel cs x h hL=>by
 obtain ⟨xs,n,hfuel,hxx,hlen,hxl,hf⟩:=DataW.trod_struct Try.underlying110 h
 subst hxx
 have hl:cs.length = 3:=hlen.trans (by kernel_rfl)
 match cs,hl with
 | [c0,c1,c2],_ =>
  obtain ⟨y0,hy0⟩ : ∃ y,xs[0]? = some y:=⟨xs[0]'(by rw [hxl]; simp),by simp⟩
  have f0:DataW.trod enc Try.prog w base sp held n 9 ((List.drop 0 [c0,c1,c2]).take (Try.prog.cellsOf 9)) = some y0:=(hf 0 _ rfl).trans hy0
  rw [show Try.prog.cellsOf 9 = 1 from by kernel_rfl] at f0
  have g0:=Light.part (P:=Try.prog) Try.underlying110 (i:=0) rfl hy0 hL
  obtain ⟨d0,t0⟩:=(opens_str Try.underlying9) H enc w base sp held n _ _ f0 g0
  obtain ⟨y1,hy1⟩ : ∃ y,xs[1]? = some y:=⟨xs[1]'(by rw [hxl]; simp),by simp⟩
  have f1:DataW.trod enc Try.prog w base sp held n 3 ((List.drop 1 [c0,c1,c2]).take (Try.prog.cellsOf 3)) = some y1:=(hf 1 _ rfl).trans hy1
  rw [show Try.prog.cellsOf 3 = 1 from by kernel_rfl] at f1
  have g1:=Light.part (P:=Try.prog) Try.underlying110 (i:=1) rfl hy1 hL
  obtain ⟨d1,t1⟩:=(opens_int Try.underlying3) H enc w base sp held n _ _ f1 g1
  obtain ⟨y2,hy2⟩ : ∃ y,xs[2]? = some y:=⟨xs[2]'(by rw [hxl]; simp),by simp⟩
  have f2:DataW.trod enc Try.prog w base sp held n 3 ((List.drop 2 [c0,c1,c2]).take (Try.prog.cellsOf 3)) = some y2:=(hf 2 _ rfl).trans hy2
  rw [show Try.prog.cellsOf 3 = 1 from by kernel_rfl] at f2
  have g2:=Light.part (P:=Try.prog) Try.underlying110 (i:=2) rfl hy2 hL
  obtain ⟨d2,t2⟩:=(opens_int Try.underlying3) H enc w base sp held n _ _ f2 g2
  obtain ⟨e0,q0⟩:=t0
  obtain ⟨e1,q1⟩:=t1
  obtain ⟨e2,q2⟩:=t2
  simp at e0 e1 e2
  exact ⟨⟨d0,d1,d2⟩,by simp [e0,e1,e2],q0,q1,q2⟩
def GChoice.TV (w:World) (x:GChoice) (cs:List Value):Prop :=
 cs = [.int .i64 x.Ask,.int .i64 x.By,.bool x.Whole] ∧ (Lit.int .i64 x.Ask).wf = true ∧ (Lit.int .i64 x.By).wf = true
def GChoice.wf (x:GChoice):Prop:=I64 x.Ask ∧ I64 x.By
theorem GChoice.TV_wf (w:World) (x:GChoice) (cs:List Value) (h:GChoice.TV w x cs):GChoice.wf x:=by
 obtain ⟨e,q0,q1⟩:=h
 exact ⟨wf_i64 q0,wf_i64 q1⟩
theorem GChoice.rds:Rds GChoice.TV GChoice.cells 3:=fun w x cs h=>by
 obtain ⟨e,q0,q1⟩:=h
 subst e
 exact ⟨RdC.cons (.int _ _) rfl (RdC.cons (.int _ _) rfl (RdC.cons (.bool _) rfl (RdC.nil _))),rfl⟩
theorem opens_GChoice:Opens Try.prog 50 GChoice.TV:=fun H enc w base sp held fuel cs x h hL=>by
 obtain ⟨xs,n,hfuel,hxx,hlen,hxl,hf⟩:=DataW.trod_struct Try.underlying50 h
 subst hxx
 have hl:cs.length = 3:=hlen.trans (by kernel_rfl)
 match cs,hl with
 | [c0,c1,c2],_ =>
  obtain ⟨y0,hy0⟩ : ∃ y,xs[0]? = some y:=⟨xs[0]'(by rw [hxl]; simp),by simp⟩
  have f0:DataW.trod enc Try.prog w base sp held n 3 ((List.drop 0 [c0,c1,c2]).take (Try.prog.cellsOf 3)) = some y0:=(hf 0 _ rfl).trans hy0
  rw [show Try.prog.cellsOf 3 = 1 from by kernel_rfl] at f0
  have g0:=Light.part (P:=Try.prog) Try.underlying50 (i:=0) rfl hy0 hL
  obtain ⟨d0,t0⟩:=(opens_int Try.underlying3) H enc w base sp held n _ _ f0 g0
  obtain ⟨y1,hy1⟩ : ∃ y,xs[1]? = some y:=⟨xs[1]'(by rw [hxl]; simp),by simp⟩
  have f1:DataW.trod enc Try.prog w base sp held n 3 ((List.drop 1 [c0,c1,c2]).take (Try.prog.cellsOf 3)) = some y1:=(hf 1 _ rfl).trans hy1
  rw [show Try.prog.cellsOf 3 = 1 from by kernel_rfl] at f1
  have g1:=Light.part (P:=Try.prog) Try.underlying50 (i:=1) rfl hy1 hL
  obtain ⟨d1,t1⟩:=(opens_int Try.underlying3) H enc w base sp held n _ _ f1 g1
  obtain ⟨y2,hy2⟩ : ∃ y,xs[2]? = some y:=⟨xs[2]'(by rw [hxl]; simp),by simp⟩
  have f2:DataW.trod enc Try.prog w base sp held n 4 ((List.drop 2 [c0,c1,c2]).take (Try.prog.cellsOf 4)) = some y2:=(hf 2 _ rfl).trans hy2
  rw [show Try.prog.cellsOf 4 = 1 from by kernel_rfl] at f2
  have g2:=Light.part (P:=Try.prog) Try.underlying50 (i:=2) rfl hy2 hL
  obtain ⟨d2,t2⟩:=(opens_bool Try.underlying4) H enc w base sp held n _ _ f2 g2
  obtain ⟨e0,q0⟩:=t0
  obtain ⟨e1,q1⟩:=t1
  have e2:(_:List Value) = _:=t2
  simp at e0 e1 e2
  exact ⟨⟨d0,d1,d2⟩,by simp [e0,e1,e2],q0,q1⟩
def GTerm.TV (w:World) (x:GTerm) (cs:List Value):Prop :=
 ∃ v0:Value,cs = [.int .i64 x.Op,.int .i64 x.N,v0] ∧ (Lit.int .i64 x.Op).wf = true ∧ (Lit.int .i64 x.N).wf = true ∧ Sq w (RowTV 3) 3 40 v0 x.Args
def GTerm.wf (x:GTerm):Prop:=I64 x.Op ∧ I64 x.N ∧ Wl (fun _=>True) x.Args
theorem GTerm.TV_wf (w:World) (x:GTerm) (cs:List Value) (h:GTerm.TV w x cs):GTerm.wf x:=by
 obtain ⟨v0,e,q0,q1,q2⟩:=h
 exact ⟨wf_i64 q0,wf_i64 q1,q2.wl (fun _ _ _ _=>trivial)⟩
theorem GTerm.rds:Rds GTerm.TV GTerm.cells 3:=fun w x cs h=>by
 obtain ⟨v0,e,q0,q1,q2⟩:=h
 subst e
 exact ⟨RdC.cons (.int _ _) rfl (RdC.cons (.int _ _) rfl (RdC.cons (q2.reads (rds_row 3)) rfl (RdC.nil _))),rfl⟩
theorem opens_GTerm:Opens Try.prog 90 GTerm.TV:=fun H enc w base sp held fuel=>by
 induction fuel using Nat.strongRecOn with
 | _ fuel ih =>
 intro cs x h hL
 obtain ⟨xs,n,hfuel,hxx,hlen,hxl,hf⟩:=DataW.trod_struct Try.underlying90 h
 subst hxx
 have hl:cs.length = 3:=hlen.trans (by kernel_rfl)
 match cs,hl with
 | [c0,c1,c2],_ =>
  obtain ⟨y0,hy0⟩ : ∃ y,xs[0]? = some y:=⟨xs[0]'(by rw [hxl]; simp),by simp⟩
  have f0:DataW.trod enc Try.prog w base sp held n 3 ((List.drop 0 [c0,c1,c2]).take (Try.prog.cellsOf 3)) = some y0:=(hf 0 _ rfl).trans hy0
  rw [show Try.prog.cellsOf 3 = 1 from by kernel_rfl] at f0
  have g0:=Light.part (P:=Try.prog) Try.underlying90 (i:=0) rfl hy0 hL
  obtain ⟨d0,t0⟩:=(opens_int Try.underlying3) H enc w base sp held n _ _ f0 g0
  obtain ⟨y1,hy1⟩ : ∃ y,xs[1]? = some y:=⟨xs[1]'(by rw [hxl]; simp),by simp⟩
  have f1:DataW.trod enc Try.prog w base sp held n 3 ((List.drop 1 [c0,c1,c2]).take (Try.prog.cellsOf 3)) = some y1:=(hf 1 _ rfl).trans hy1
  rw [show Try.prog.cellsOf 3 = 1 from by kernel_rfl] at f1
  have g1:=Light.part (P:=Try.prog) Try.underlying90 (i:=1) rfl hy1 hL
  obtain ⟨d1,t1⟩:=(opens_int Try.underlying3) H enc w base sp held n _ _ f1 g1
  obtain ⟨y2,hy2⟩ : ∃ y,xs[2]? = some y:=⟨xs[2]'(by rw [hxl]; simp),by simp⟩
  have f2:DataW.trod enc Try.prog w base sp held n 88 ((List.drop 2 [c0,c1,c2]).take (Try.prog.cellsOf 88)) = some y2:=(hf 2 _ rfl).trans hy2
  rw [show Try.prog.cellsOf 88 = 1 from by kernel_rfl] at f2
  have g2:=Light.part (P:=Try.prog) Try.underlying90 (i:=2) rfl hy2 hL
  obtain ⟨d2,t2⟩:=opens_slice_at (k:=3) (bt:=40) (TV:=RowTV 3) Try.underlying88 (by kernel_rfl) (by kernel_rfl) (by omega) (fun m hm cs x h hL=>by obtain ⟨g,hg⟩:=ih m (by omega) cs x h hL; exact ⟨GTerm.cells g,GTerm.rds _ _ _ hg⟩) f2 g2
  obtain ⟨e0,q0⟩:=t0
  obtain ⟨e1,q1⟩:=t1
  obtain ⟨u2,e2,q2⟩:=t2
  simp at e0 e1 e2
  exact ⟨⟨d0,d1,d2⟩,u2,by simp [e0,e1,e2],q0,q1,q2⟩
def GRule.TV (w:World) (x:GRule) (cs:List Value):Prop :=
 ∃ v0:Value,cs = [.int .i64 x.Ask,.int .i64 x.Term.Op,.int .i64 x.Term.N,v0] ∧ (Lit.int .i64 x.Ask).wf = true ∧ (Lit.int .i64 x.Term.Op).wf = true ∧ (Lit.int .i64 x.Term.N).wf = true ∧ Sq w (RowTV 3) 3 40 v0 x.Term.Args
def GRule.wf (x:GRule):Prop:=I64 x.Ask ∧ GTerm.wf x.Term
theorem GRule.TV_wf (w:World) (x:GRule) (cs:List Value) (h:GRule.TV w x cs):GRule.wf x:=by
 obtain ⟨v0,e,q0,q1,q2,q3⟩:=h
 exact ⟨wf_i64 q0,⟨wf_i64 q1,wf_i64 q2,q3.wl (fun _ _ _ _=>trivial)⟩⟩
theorem GRule.rds:Rds GRule.TV GRule.cells 4:=fun w x cs h=>by
 obtain ⟨v0,e,q0,q1,q2,q3⟩:=h
 subst e
 exact ⟨RdC.cons (.int _ _) rfl (RdC.cons (.int _ _) rfl (RdC.cons (.int _ _) rfl (RdC.cons (q3.reads (rds_row 3)) rfl (RdC.nil _)))),rfl⟩
theorem opens_GRule:Opens Try.prog 92 GRule.TV:=fun H enc w base sp held fuel cs x h hL=>by
 obtain ⟨xs,n,hfuel,hxx,hlen,hxl,hf⟩:=DataW.trod_struct Try.underlying92 h
 subst hxx
 have hl:cs.length = 4:=hlen.trans (by kernel_rfl)
 match cs,hl with
 | [c0,c1,c2,c3],_ =>
  obtain ⟨y0,hy0⟩ : ∃ y,xs[0]? = some y:=⟨xs[0]'(by rw [hxl]; simp),by simp⟩
  have f0:DataW.trod enc Try.prog w base sp held n 3 ((List.drop 0 [c0,c1,c2,c3]).take (Try.prog.cellsOf 3)) = some y0:=(hf 0 _ rfl).trans hy0
  rw [show Try.prog.cellsOf 3 = 1 from by kernel_rfl] at f0
  have g0:=Light.part (P:=Try.prog) Try.underlying92 (i:=0) rfl hy0 hL
  obtain ⟨d0,t0⟩:=(opens_int Try.underlying3) H enc w base sp held n _ _ f0 g0
  obtain ⟨y1,hy1⟩ : ∃ y,xs[1]? = some y:=⟨xs[1]'(by rw [hxl]; simp),by simp⟩
  have f1:DataW.trod enc Try.prog w base sp held n 90 ((List.drop 1 [c0,c1,c2,c3]).take (Try.prog.cellsOf 90)) = some y1:=(hf 1 _ rfl).trans hy1
  rw [show Try.prog.cellsOf 90 = 3 from by kernel_rfl] at f1
  have g1:=Light.part (P:=Try.prog) Try.underlying92 (i:=1) rfl hy1 hL
  obtain ⟨d1,t1⟩:=opens_GTerm H enc w base sp held n _ _ f1 g1
  obtain ⟨e0,q0⟩:=t0
  obtain ⟨u1_0,e1,q1_0,q1_1,q1_2⟩:=t1
  simp at e0 e1
  exact ⟨⟨d0,d1⟩,u1_0,by simp [e0,e1],q0,q1_0,q1_1,q1_2⟩
def GOrder.TV (w:World) (x:GOrder) (cs:List Value):Prop :=
 ∃ v0 v1:Value,cs = [.string x.Name,.bool x.Accepts,v0,v1] ∧ x.Name.size ≤ maxLen ∧ Sq w GChoice.TV 3 24 v0 x.Choices ∧ Sq w GRule.TV 4 48 v1 x.Rules
def GOrder.wf (x:GOrder):Prop:=Ws x.Name ∧ Wl GChoice.wf x.Choices ∧ Wl GRule.wf x.Rules
theorem GOrder.TV_wf (w:World) (x:GOrder) (cs:List Value) (h:GOrder.TV w x cs):GOrder.wf x:=by
 obtain ⟨v0,v1,e,q0,q1,q2⟩:=h
 exact ⟨ws_of q0,q1.wl GChoice.TV_wf,q2.wl GRule.TV_wf⟩
theorem GOrder.rds:Rds GOrder.TV GOrder.cells 4:=fun w x cs h=>by
 obtain ⟨v0,v1,e,q0,q1,q2⟩:=h
 subst e
 exact ⟨RdC.cons (.str _ q0) rfl (RdC.cons (.bool _) rfl (RdC.cons (q1.reads GChoice.rds) rfl (RdC.cons (q2.reads GRule.rds) rfl (RdC.nil _)))),rfl⟩
theorem opens_GOrder:Opens Try.prog 47 GOrder.TV:=fun H enc w base sp held fuel cs x h hL=>by
 obtain ⟨xs,n,hfuel,hxx,hlen,hxl,hf⟩:=DataW.trod_struct Try.underlying47 h
 subst hxx
 have hl:cs.length = 4:=hlen.trans (by kernel_rfl)
 match cs,hl with
 | [c0,c1,c2,c3],_ =>
  obtain ⟨y0,hy0⟩ : ∃ y,xs[0]? = some y:=⟨xs[0]'(by rw [hxl]; simp),by simp⟩
  have f0:DataW.trod enc Try.prog w base sp held n 9 ((List.drop 0 [c0,c1,c2,c3]).take (Try.prog.cellsOf 9)) = some y0:=(hf 0 _ rfl).trans hy0
  rw [show Try.prog.cellsOf 9 = 1 from by kernel_rfl] at f0
  have g0:=Light.part (P:=Try.prog) Try.underlying47 (i:=0) rfl hy0 hL
  obtain ⟨d0,t0⟩:=(opens_str Try.underlying9) H enc w base sp held n _ _ f0 g0
  obtain ⟨y1,hy1⟩ : ∃ y,xs[1]? = some y:=⟨xs[1]'(by rw [hxl]; simp),by simp⟩
  have f1:DataW.trod enc Try.prog w base sp held n 4 ((List.drop 1 [c0,c1,c2,c3]).take (Try.prog.cellsOf 4)) = some y1:=(hf 1 _ rfl).trans hy1
  rw [show Try.prog.cellsOf 4 = 1 from by kernel_rfl] at f1
  have g1:=Light.part (P:=Try.prog) Try.underlying47 (i:=1) rfl hy1 hL
  obtain ⟨d1,t1⟩:=(opens_bool Try.underlying4) H enc w base sp held n _ _ f1 g1
  obtain ⟨y2,hy2⟩ : ∃ y,xs[2]? = some y:=⟨xs[2]'(by rw [hxl]; simp),by simp⟩
  have f2:DataW.trod enc Try.prog w base sp held n 44 ((List.drop 2 [c0,c1,c2,c3]).take (Try.prog.cellsOf 44)) = some y2:=(hf 2 _ rfl).trans hy2
  rw [show Try.prog.cellsOf 44 = 1 from by kernel_rfl] at f2
  have g2:=Light.part (P:=Try.prog) Try.underlying47 (i:=2) rfl hy2 hL
  obtain ⟨d2,t2⟩:=(opens_slice (k:=3) (bt:=24) Try.underlying44 (by kernel_rfl) (by kernel_rfl) (by omega) opens_GChoice) H enc w base sp held n _ _ f2 g2
  obtain ⟨y3,hy3⟩ : ∃ y,xs[3]? = some y:=⟨xs[3]'(by rw [hxl]; simp),by simp⟩
  have f3:DataW.trod enc Try.prog w base sp held n 45 ((List.drop 3 [c0,c1,c2,c3]).take (Try.prog.cellsOf 45)) = some y3:=(hf 3 _ rfl).trans hy3
  rw [show Try.prog.cellsOf 45 = 1 from by kernel_rfl] at f3
  have g3:=Light.part (P:=Try.prog) Try.underlying47 (i:=3) rfl hy3 hL
  obtain ⟨d3,t3⟩:=(opens_slice (k:=4) (bt:=48) Try.underlying45 (by kernel_rfl) (by kernel_rfl) (by omega) opens_GRule) H enc w base sp held n _ _ f3 g3
  obtain ⟨e0,q0⟩:=t0
  have e1:(_:List Value) = _:=t1
  obtain ⟨u2,e2,q2⟩:=t2
  obtain ⟨u3,e3,q3⟩:=t3
  simp at e0 e1 e2 e3
  exact ⟨⟨d0,d1,d2,d3⟩,u2,u3,by simp [e0,e1,e2,e3],q0,q2,q3⟩
def GUsance.TV (w:World) (x:GUsance) (cs:List Value):Prop :=
 cs = [.int .i64 x.From,.int .i64 x.To,.int .i64 x.Days] ∧ (Lit.int .i64 x.From).wf = true ∧ (Lit.int .i64 x.To).wf = true ∧ (Lit.int .i64 x.Days).wf = true
def GUsance.wf (x:GUsance):Prop:=I64 x.From ∧ I64 x.To ∧ I64 x.Days
theorem GUsance.TV_wf (w:World) (x:GUsance) (cs:List Value) (h:GUsance.TV w x cs):GUsance.wf x:=by
 obtain ⟨e,q0,q1,q2⟩:=h
 exact ⟨wf_i64 q0,wf_i64 q1,wf_i64 q2⟩
theorem GUsance.rds:Rds GUsance.TV GUsance.cells 3:=fun w x cs h=>by
 obtain ⟨e,q0,q1,q2⟩:=h
 subst e
 exact ⟨RdC.cons (.int _ _) rfl (RdC.cons (.int _ _) rfl (RdC.cons (.int _ _) rfl (RdC.nil _))),rfl⟩
theorem opens_GUsance:Opens Try.prog 123 GUsance.TV:=fun H enc w base sp held fuel cs x h hL=>by
 obtain ⟨xs,n,hfuel,hxx,hlen,hxl,hf⟩:=DataW.trod_struct Try.underlying123 h
 subst hxx
 have hl:cs.length = 3:=hlen.trans (by kernel_rfl)
 match cs,hl with
 | [c0,c1,c2],_ =>
  obtain ⟨y0,hy0⟩ : ∃ y,xs[0]? = some y:=⟨xs[0]'(by rw [hxl]; simp),by simp⟩
  have f0:DataW.trod enc Try.prog w base sp held n 3 ((List.drop 0 [c0,c1,c2]).take (Try.prog.cellsOf 3)) = some y0:=(hf 0 _ rfl).trans hy0
  rw [show Try.prog.cellsOf 3 = 1 from by kernel_rfl] at f0
  have g0:=Light.part (P:=Try.prog) Try.underlying123 (i:=0) rfl hy0 hL
  obtain ⟨d0,t0⟩:=(opens_int Try.underlying3) H enc w base sp held n _ _ f0 g0
  obtain ⟨y1,hy1⟩ : ∃ y,xs[1]? = some y:=⟨xs[1]'(by rw [hxl]; simp),by simp⟩
  have f1:DataW.trod enc Try.prog w base sp held n 3 ((List.drop 1 [c0,c1,c2]).take (Try.prog.cellsOf 3)) = some y1:=(hf 1 _ rfl).trans hy1
  rw [show Try.prog.cellsOf 3 = 1 from by kernel_rfl] at f1
  have g1:=Light.part (P:=Try.prog) Try.underlying123 (i:=1) rfl hy1 hL
  obtain ⟨d1,t1⟩:=(opens_int Try.underlying3) H enc w base sp held n _ _ f1 g1
  obtain ⟨y2,hy2⟩ : ∃ y,xs[2]? = some y:=⟨xs[2]'(by rw [hxl]; simp),by simp⟩
  have f2:DataW.trod enc Try.prog w base sp held n 3 ((List.drop 2 [c0,c1,c2]).take (Try.prog.cellsOf 3)) = some y2:=(hf 2 _ rfl).trans hy2
  rw [show Try.prog.cellsOf 3 = 1 from by kernel_rfl] at f2
  have g2:=Light.part (P:=Try.prog) Try.underlying123 (i:=2) rfl hy2 hL
  obtain ⟨d2,t2⟩:=(opens_int Try.underlying3) H enc w base sp held n _ _ f2 g2
  obtain ⟨e0,q0⟩:=t0
  obtain ⟨e1,q1⟩:=t1
  obtain ⟨e2,q2⟩:=t2
  simp at e0 e1 e2
  exact ⟨⟨d0,d1,d2⟩,by simp [e0,e1,e2],q0,q1,q2⟩
def GRate.TV (w:World) (x:GRate) (cs:List Value):Prop :=
 cs = [.int .i64 x.From,.int .i64 x.To,.int .i64 x.Num,.int .i64 x.Den,.int .i64 x.Since] ∧ (Lit.int .i64 x.From).wf = true ∧ (Lit.int .i64 x.To).wf = true ∧ (Lit.int .i64 x.Num).wf = true ∧ (Lit.int .i64 x.Den).wf = true ∧ (Lit.int .i64 x.Since).wf = true
def GRate.wf (x:GRate):Prop:=I64 x.From ∧ I64 x.To ∧ I64 x.Num ∧ I64 x.Den ∧ I64 x.Since
theorem GRate.TV_wf (w:World) (x:GRate) (cs:List Value) (h:GRate.TV w x cs):GRate.wf x:=by
 obtain ⟨e,q0,q1,q2,q3,q4⟩:=h
 exact ⟨wf_i64 q0,wf_i64 q1,wf_i64 q2,wf_i64 q3,wf_i64 q4⟩
theorem GRate.rds:Rds GRate.TV GRate.cells 5:=fun w x cs h=>by
 obtain ⟨e,q0,q1,q2,q3,q4⟩:=h
 subst e
 exact ⟨RdC.cons (.int _ _) rfl (RdC.cons (.int _ _) rfl (RdC.cons (.int _ _) rfl (RdC.cons (.int _ _) rfl (RdC.cons (.int _ _) rfl (RdC.nil _))))),rfl⟩
theorem opens_GRate:Opens Try.prog 125 GRate.TV:=fun H enc w base sp held fuel cs x h hL=>by
 obtain ⟨xs,n,hfuel,hxx,hlen,hxl,hf⟩:=DataW.trod_struct Try.underlying125 h
 subst hxx
 have hl:cs.length = 5:=hlen.trans (by kernel_rfl)
 match cs,hl with
 | [c0,c1,c2,c3,c4],_ =>
  obtain ⟨y0,hy0⟩ : ∃ y,xs[0]? = some y:=⟨xs[0]'(by rw [hxl]; simp),by simp⟩
  have f0:DataW.trod enc Try.prog w base sp held n 3 ((List.drop 0 [c0,c1,c2,c3,c4]).take (Try.prog.cellsOf 3)) = some y0:=(hf 0 _ rfl).trans hy0
  rw [show Try.prog.cellsOf 3 = 1 from by kernel_rfl] at f0
  have g0:=Light.part (P:=Try.prog) Try.underlying125 (i:=0) rfl hy0 hL
  obtain ⟨d0,t0⟩:=(opens_int Try.underlying3) H enc w base sp held n _ _ f0 g0
  obtain ⟨y1,hy1⟩ : ∃ y,xs[1]? = some y:=⟨xs[1]'(by rw [hxl]; simp),by simp⟩
  have f1:DataW.trod enc Try.prog w base sp held n 3 ((List.drop 1 [c0,c1,c2,c3,c4]).take (Try.prog.cellsOf 3)) = some y1:=(hf 1 _ rfl).trans hy1
  rw [show Try.prog.cellsOf 3 = 1 from by kernel_rfl] at f1
  have g1:=Light.part (P:=Try.prog) Try.underlying125 (i:=1) rfl hy1 hL
  obtain ⟨d1,t1⟩:=(opens_int Try.underlying3) H enc w base sp held n _ _ f1 g1
  obtain ⟨y2,hy2⟩ : ∃ y,xs[2]? = some y:=⟨xs[2]'(by rw [hxl]; simp),by simp⟩
  have f2:DataW.trod enc Try.prog w base sp held n 3 ((List.drop 2 [c0,c1,c2,c3,c4]).take (Try.prog.cellsOf 3)) = some y2:=(hf 2 _ rfl).trans hy2
  rw [show Try.prog.cellsOf 3 = 1 from by kernel_rfl] at f2
  have g2:=Light.part (P:=Try.prog) Try.underlying125 (i:=2) rfl hy2 hL
  obtain ⟨d2,t2⟩:=(opens_int Try.underlying3) H enc w base sp held n _ _ f2 g2
  obtain ⟨y3,hy3⟩ : ∃ y,xs[3]? = some y:=⟨xs[3]'(by rw [hxl]; simp),by simp⟩
  have f3:DataW.trod enc Try.prog w base sp held n 3 ((List.drop 3 [c0,c1,c2,c3,c4]).take (Try.prog.cellsOf 3)) = some y3:=(hf 3 _ rfl).trans hy3
  rw [show Try.prog.cellsOf 3 = 1 from by kernel_rfl] at f3
  have g3:=Light.part (P:=Try.prog) Try.underlying125 (i:=3) rfl hy3 hL
  obtain ⟨d3,t3⟩:=(opens_int Try.underlying3) H enc w base sp held n _ _ f3 g3
  obtain ⟨y4,hy4⟩ : ∃ y,xs[4]? = some y:=⟨xs[4]'(by rw [hxl]; simp),by simp⟩
  have f4:DataW.trod enc Try.prog w base sp held n 3 ((List.drop 4 [c0,c1,c2,c3,c4]).take (Try.prog.cellsOf 3)) = some y4:=(hf 4 _ rfl).trans hy4
  rw [show Try.prog.cellsOf 3 = 1 from by kernel_rfl] at f4
  have g4:=Light.part (P:=Try.prog) Try.underlying125 (i:=4) rfl hy4 hL
  obtain ⟨d4,t4⟩:=(opens_int Try.underlying3) H enc w base sp held n _ _ f4 g4
  obtain ⟨e0,q0⟩:=t0
  obtain ⟨e1,q1⟩:=t1
  obtain ⟨e2,q2⟩:=t2
  obtain ⟨e3,q3⟩:=t3
  obtain ⟨e4,q4⟩:=t4
  simp at e0 e1 e2 e3 e4
  exact ⟨⟨d0,d1,d2,d3,d4⟩,by simp [e0,e1,e2,e3,e4],q0,q1,q2,q3,q4⟩
def GHalt.TV (w:World) (x:GHalt) (cs:List Value):Prop :=
 cs = [.int .i64 x.Order,.int .i64 x.From,.int .i64 x.To] ∧ (Lit.int .i64 x.Order).wf = true ∧ (Lit.int .i64 x.From).wf = true ∧ (Lit.int .i64 x.To).wf = true
def GHalt.wf (x:GHalt):Prop:=I64 x.Order ∧ I64 x.From ∧ I64 x.To
theorem GHalt.TV_wf (w:World) (x:GHalt) (cs:List Value) (h:GHalt.TV w x cs):GHalt.wf x:=by
 obtain ⟨e,q0,q1,q2⟩:=h
 exact ⟨wf_i64 q0,wf_i64 q1,wf_i64 q2⟩
theorem GHalt.rds:Rds GHalt.TV GHalt.cells 3:=fun w x cs h=>by
 obtain ⟨e,q0,q1,q2⟩:=h
 subst e
 exact ⟨RdC.cons (.int _ _) rfl (RdC.cons (.int _ _) rfl (RdC.cons (.int _ _) rfl (RdC.nil _))),rfl⟩
theorem opens_GHalt:Opens Try.prog 127 GHalt.TV:=fun H enc w base sp held fuel cs x h hL=>by
 obtain ⟨xs,n,hfuel,hxx,hlen,hxl,hf⟩:=DataW.trod_struct Try.underlying127 h
 subst hxx
 have hl:cs.length = 3:=hlen.trans (by kernel_rfl)
 match cs,hl with
 | [c0,c1,c2],_ =>
  obtain ⟨y0,hy0⟩ : ∃ y,xs[0]? = some y:=⟨xs[0]'(by rw [hxl]; simp),by simp⟩
  have f0:DataW.trod enc Try.prog w base sp held n 3 ((List.drop 0 [c0,c1,c2]).take (Try.prog.cellsOf 3)) = some y0:=(hf 0 _ rfl).trans hy0
  rw [show Try.prog.cellsOf 3 = 1 from by kernel_rfl] at f0
  have g0:=Light.part (P:=Try.prog) Try.underlying127 (i:=0) rfl hy0 hL
  obtain ⟨d0,t0⟩:=(opens_int Try.underlying3) H enc w base sp held n _ _ f0 g0
  obtain ⟨y1,hy1⟩ : ∃ y,xs[1]? = some y:=⟨xs[1]'(by rw [hxl]; simp),by simp⟩
  have f1:DataW.trod enc Try.prog w base sp held n 3 ((List.drop 1 [c0,c1,c2]).take (Try.prog.cellsOf 3)) = some y1:=(hf 1 _ rfl).trans hy1
  rw [show Try.prog.cellsOf 3 = 1 from by kernel_rfl] at f1
  have g1:=Light.part (P:=Try.prog) Try.underlying127 (i:=1) rfl hy1 hL
  obtain ⟨d1,t1⟩:=(opens_int Try.underlying3) H enc w base sp held n _ _ f1 g1
  obtain ⟨y2,hy2⟩ : ∃ y,xs[2]? = some y:=⟨xs[2]'(by rw [hxl]; simp),by simp⟩
  have f2:DataW.trod enc Try.prog w base sp held n 3 ((List.drop 2 [c0,c1,c2]).take (Try.prog.cellsOf 3)) = some y2:=(hf 2 _ rfl).trans hy2
  rw [show Try.prog.cellsOf 3 = 1 from by kernel_rfl] at f2
  have g2:=Light.part (P:=Try.prog) Try.underlying127 (i:=2) rfl hy2 hL
  obtain ⟨d2,t2⟩:=(opens_int Try.underlying3) H enc w base sp held n _ _ f2 g2
  obtain ⟨e0,q0⟩:=t0
  obtain ⟨e1,q1⟩:=t1
  obtain ⟨e2,q2⟩:=t2
  simp at e0 e1 e2
  exact ⟨⟨d0,d1,d2⟩,by simp [e0,e1,e2],q0,q1,q2⟩
def GRealm.TV (w:World) (x:GRealm) (cs:List Value):Prop :=
 ∃ v0 v1 v2 v3 v4 v5 v6 v7:Value,cs = [v0,v1,v2,v3,v4,v5,v6,v7] ∧ Sq w StrTV 1 16 v0 x.Currencies ∧ Sq w GCity.TV 6 104 v1 x.Cities ∧ Sq w GGroup.TV 1 8 v2 x.Groups ∧ Sq w GFirm.TV 3 32 v3 x.Firms ∧ Sq w GOrder.TV 4 72 v4 x.Orders ∧ Sq w GUsance.TV 3 24 v5 x.Usances ∧ Sq w GRate.TV 5 40 v6 x.Rates ∧ Sq w GHalt.TV 3 24 v7 x.Halts
def GRealm.wf (x:GRealm):Prop:=Wl Ws x.Currencies ∧ Wl GCity.wf x.Cities ∧ Wl GGroup.wf x.Groups ∧ Wl GFirm.wf x.Firms ∧ Wl GOrder.wf x.Orders ∧ Wl GUsance.wf x.Usances ∧ Wl GRate.wf x.Rates ∧ Wl GHalt.wf x.Halts
theorem GRealm.TV_wf (w:World) (x:GRealm) (cs:List Value) (h:GRealm.TV w x cs):GRealm.wf x:=by
 obtain ⟨v0,v1,v2,v3,v4,v5,v6,v7,e,q0,q1,q2,q3,q4,q5,q6,q7⟩:=h
 exact ⟨q0.wl (fun w x cs h=>ws_of h.2),q1.wl GCity.TV_wf,q2.wl GGroup.TV_wf,q3.wl GFirm.TV_wf,q4.wl GOrder.TV_wf,q5.wl GUsance.TV_wf,q6.wl GRate.TV_wf,q7.wl GHalt.TV_wf⟩
theorem GRealm.rds:Rds GRealm.TV GRealm.cells 8:=fun w x cs h=>by
 obtain ⟨v0,v1,v2,v3,v4,v5,v6,v7,e,q0,q1,q2,q3,q4,q5,q6,q7⟩:=h
 subst e
 exact ⟨RdC.cons (q0.reads rds_str) rfl (RdC.cons (q1.reads GCity.rds) rfl (RdC.cons (q2.reads GGroup.rds) rfl (RdC.cons (q3.reads GFirm.rds) rfl (RdC.cons (q4.reads GOrder.rds) rfl (RdC.cons (q5.reads GUsance.rds) rfl (RdC.cons (q6.reads GRate.rds) rfl (RdC.cons (q7.reads GHalt.rds) rfl (RdC.nil _)))))))),rfl⟩
theorem opens_GRealm:Opens Try.prog 31 GRealm.TV:=fun H enc w base sp held fuel cs x h hL=>by
 obtain ⟨xs,n,hfuel,hxx,hlen,hxl,hf⟩:=DataW.trod_struct Try.underlying31 h
 subst hxx
 have hl:cs.length = 8:=hlen.trans (by kernel_rfl)
 match cs,hl with
 | [c0,c1,c2,c3,c4,c5,c6,c7],_ =>
  obtain ⟨y0,hy0⟩ : ∃ y,xs[0]? = some y:=⟨xs[0]'(by rw [hxl]; simp),by simp⟩
  have f0:DataW.trod enc Try.prog w base sp held n 22 ((List.drop 0 [c0,c1,c2,c3,c4,c5,c6,c7]).take (Try.prog.cellsOf 22)) = some y0:=(hf 0 _ rfl).trans hy0
  rw [show Try.prog.cellsOf 22 = 1 from by kernel_rfl] at f0
  have g0:=Light.part (P:=Try.prog) Try.underlying31 (i:=0) rfl hy0 hL
  obtain ⟨d0,t0⟩:=(opens_slice (k:=1) (bt:=16) Try.underlying22 (by kernel_rfl) (by kernel_rfl) (by omega) (opens_str Try.underlying9)) H enc w base sp held n _ _ f0 g0
  obtain ⟨y1,hy1⟩ : ∃ y,xs[1]? = some y:=⟨xs[1]'(by rw [hxl]; simp),by simp⟩
  have f1:DataW.trod enc Try.prog w base sp held n 23 ((List.drop 1 [c0,c1,c2,c3,c4,c5,c6,c7]).take (Try.prog.cellsOf 23)) = some y1:=(hf 1 _ rfl).trans hy1
  rw [show Try.prog.cellsOf 23 = 1 from by kernel_rfl] at f1
  have g1:=Light.part (P:=Try.prog) Try.underlying31 (i:=1) rfl hy1 hL
  obtain ⟨d1,t1⟩:=(opens_slice (k:=6) (bt:=104) Try.underlying23 (by kernel_rfl) (by kernel_rfl) (by omega) opens_GCity) H enc w base sp held n _ _ f1 g1
  obtain ⟨y2,hy2⟩ : ∃ y,xs[2]? = some y:=⟨xs[2]'(by rw [hxl]; simp),by simp⟩
  have f2:DataW.trod enc Try.prog w base sp held n 24 ((List.drop 2 [c0,c1,c2,c3,c4,c5,c6,c7]).take (Try.prog.cellsOf 24)) = some y2:=(hf 2 _ rfl).trans hy2
  rw [show Try.prog.cellsOf 24 = 1 from by kernel_rfl] at f2
  have g2:=Light.part (P:=Try.prog) Try.underlying31 (i:=2) rfl hy2 hL
  obtain ⟨d2,t2⟩:=(opens_slice (k:=1) (bt:=8) Try.underlying24 (by kernel_rfl) (by kernel_rfl) (by omega) opens_GGroup) H enc w base sp held n _ _ f2 g2
  obtain ⟨y3,hy3⟩ : ∃ y,xs[3]? = some y:=⟨xs[3]'(by rw [hxl]; simp),by simp⟩
  have f3:DataW.trod enc Try.prog w base sp held n 25 ((List.drop 3 [c0,c1,c2,c3,c4,c5,c6,c7]).take (Try.prog.cellsOf 25)) = some y3:=(hf 3 _ rfl).trans hy3
  rw [show Try.prog.cellsOf 25 = 1 from by kernel_rfl] at f3
  have g3:=Light.part (P:=Try.prog) Try.underlying31 (i:=3) rfl hy3 hL
  obtain ⟨d3,t3⟩:=(opens_slice (k:=3) (bt:=32) Try.underlying25 (by kernel_rfl) (by kernel_rfl) (by omega) opens_GFirm) H enc w base sp held n _ _ f3 g3
  obtain ⟨y4,hy4⟩ : ∃ y,xs[4]? = some y:=⟨xs[4]'(by rw [hxl]; simp),by simp⟩
  have f4:DataW.trod enc Try.prog w base sp held n 26 ((List.drop 4 [c0,c1,c2,c3,c4,c5,c6,c7]).take (Try.prog.cellsOf 26)) = some y4:=(hf 4 _ rfl).trans hy4
  rw [show Try.prog.cellsOf 26 = 1 from by kernel_rfl] at f4
  have g4:=Light.part (P:=Try.prog) Try.underlying31 (i:=4) rfl hy4 hL
  obtain ⟨d4,t4⟩:=(opens_slice (k:=4) (bt:=72) Try.underlying26 (by kernel_rfl) (by kernel_rfl) (by omega) opens_GOrder) H enc w base sp held n _ _ f4 g4
  obtain ⟨y5,hy5⟩ : ∃ y,xs[5]? = some y:=⟨xs[5]'(by rw [hxl]; simp),by simp⟩
  have f5:DataW.trod enc Try.prog w base sp held n 27 ((List.drop 5 [c0,c1,c2,c3,c4,c5,c6,c7]).take (Try.prog.cellsOf 27)) = some y5:=(hf 5 _ rfl).trans hy5
  rw [show Try.prog.cellsOf 27 = 1 from by kernel_rfl] at f5
  have g5:=Light.part (P:=Try.prog) Try.underlying31 (i:=5) rfl hy5 hL
  obtain ⟨d5,t5⟩:=(opens_slice (k:=3) (bt:=24) Try.underlying27 (by kernel_rfl) (by kernel_rfl) (by omega) opens_GUsance) H enc w base sp held n _ _ f5 g5
  obtain ⟨y6,hy6⟩ : ∃ y,xs[6]? = some y:=⟨xs[6]'(by rw [hxl]; simp),by simp⟩
  have f6:DataW.trod enc Try.prog w base sp held n 28 ((List.drop 6 [c0,c1,c2,c3,c4,c5,c6,c7]).take (Try.prog.cellsOf 28)) = some y6:=(hf 6 _ rfl).trans hy6
  rw [show Try.prog.cellsOf 28 = 1 from by kernel_rfl] at f6
  have g6:=Light.part (P:=Try.prog) Try.underlying31 (i:=6) rfl hy6 hL
  obtain ⟨d6,t6⟩:=(opens_slice (k:=5) (bt:=40) Try.underlying28 (by kernel_rfl) (by kernel_rfl) (by omega) opens_GRate) H enc w base sp held n _ _ f6 g6
  obtain ⟨y7,hy7⟩ : ∃ y,xs[7]? = some y:=⟨xs[7]'(by rw [hxl]; simp),by simp⟩
  have f7:DataW.trod enc Try.prog w base sp held n 29 ((List.drop 7 [c0,c1,c2,c3,c4,c5,c6,c7]).take (Try.prog.cellsOf 29)) = some y7:=(hf 7 _ rfl).trans hy7
  rw [show Try.prog.cellsOf 29 = 1 from by kernel_rfl] at f7
  have g7:=Light.part (P:=Try.prog) Try.underlying31 (i:=7) rfl hy7 hL
  obtain ⟨d7,t7⟩:=(opens_slice (k:=3) (bt:=24) Try.underlying29 (by kernel_rfl) (by kernel_rfl) (by omega) opens_GHalt) H enc w base sp held n _ _ f7 g7
  obtain ⟨u0,e0,q0⟩:=t0
  obtain ⟨u1,e1,q1⟩:=t1
  obtain ⟨u2,e2,q2⟩:=t2
  obtain ⟨u3,e3,q3⟩:=t3
  obtain ⟨u4,e4,q4⟩:=t4
  obtain ⟨u5,e5,q5⟩:=t5
  obtain ⟨u6,e6,q6⟩:=t6
  obtain ⟨u7,e7,q7⟩:=t7
  simp at e0 e1 e2 e3 e4 e5 e6 e7
  exact ⟨⟨d0,d1,d2,d3,d4,d5,d6,d7⟩,u0,u1,u2,u3,u4,u5,u6,u7,by simp [e0,e1,e2,e3,e4,e5,e6,e7],q0,q1,q2,q3,q4,q5,q6,q7⟩
end Go.Proofs.Ytlpgfmnicomjjaa
