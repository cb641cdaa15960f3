/- How what a law is handed reads. Printed by a program. -/
import Derived.Test.YtfhebiceipgdmaaVmG
import Derived.Test.YtfhebiceipgdmaaTab
import Derived.KernelRfl
set_option linter.unusedVariables false
set_option maxRecDepth 100000
namespace Go.Proofs.Ytfhebiceipgdmaa
open Go.RowKit Go.ChangeShapes Go.WideShapes Go.Deep Vm
def GCity.TV (w:World) (x:GCity) (cs:List Value):Prop :=
 ∃ v0 v1 v2:Value,cs = [.string x.Name,.int .i64 x.Order,.int .i64 x.Currency,v0,v1,v2] ∧ x.Name.size ≤ maxLen ∧ (Lit.int .i64 x.Order).wf = true ∧ (Lit.int .i64 x.Currency).wf = true ∧ Sq w IntTV 1 v0 x.Rest ∧ Sq w IntTV 1 v1 x.Feasts ∧ Sq w IntTV 1 v2 x.Shut
def GCity.wf (x:GCity):Prop:=Ws x.Name ∧ I64 x.Order ∧ I64 x.Currency ∧ Wl I64 x.Rest ∧ Wl I64 x.Feasts ∧ Wl I64 x.Shut
theorem GCity.TV_wf (w:World) (x:GCity) (cs:List Value) (h:GCity.TV w x cs):GCity.wf x:=by
 obtain ⟨v0,v1,v2,e,q0,q1,q2,q3,q4,q5⟩:=h
 exact ⟨ws_of q0,wf_i64 q1,wf_i64 q2,q3.wl (fun w x cs h=>wf_i64 h.2),q4.wl (fun w x cs h=>wf_i64 h.2),q5.wl (fun w x cs h=>wf_i64 h.2)⟩
theorem GCity.rds:Rds GCity.TV GCity.cells 6:=fun w x cs h=>by
 obtain ⟨v0,v1,v2,e,q0,q1,q2,q3,q4,q5⟩:=h
 subst e
 exact ⟨RdC.cons (.str _ q0) rfl (RdC.cons (.int _ _) rfl (RdC.cons (.int _ _) rfl (RdC.cons (q3.reads rds_int) rfl (RdC.cons (q4.reads rds_int) rfl (RdC.cons (q5.reads rds_int) rfl (RdC.nil _)))))),rfl⟩
def GGroup.TV (w:World) (x:GGroup) (cs:List Value):Prop :=
 cs = [.int .i64 x.Grade] ∧ (Lit.int .i64 x.Grade).wf = true
def GGroup.wf (x:GGroup):Prop:=I64 x.Grade
theorem GGroup.TV_wf (w:World) (x:GGroup) (cs:List Value) (h:GGroup.TV w x cs):GGroup.wf x:=by
 obtain ⟨e,q0⟩:=h
 exact wf_i64 q0
theorem GGroup.rds:Rds GGroup.TV GGroup.cells 1:=fun w x cs h=>by
 obtain ⟨e,q0⟩:=h
 subst e
 exact ⟨RdC.cons (.int _ _) rfl (RdC.nil _),rfl⟩
def GFirm.TV (w:World) (x:GFirm) (cs:List Value):Prop :=
 cs = [.string x.Name,.int .i64 x.City,.int .i64 x.Group] ∧ x.Name.size ≤ maxLen ∧ (Lit.int .i64 x.City).wf = true ∧ (Lit.int .i64 x.Group).wf = true
def GFirm.wf (x:GFirm):Prop:=Ws x.Name ∧ I64 x.City ∧ I64 x.Group
theorem GFirm.TV_wf (w:World) (x:GFirm) (cs:List Value) (h:GFirm.TV w x cs):GFirm.wf x:=by
 obtain ⟨e,q0,q1,q2⟩:=h
 exact ⟨ws_of q0,wf_i64 q1,wf_i64 q2⟩
theorem GFirm.rds:Rds GFirm.TV GFirm.cells 3:=fun w x cs h=>by
 obtain ⟨e,q0,q1,q2⟩:=h
 subst e
 exact ⟨RdC.cons (.str _ q0) rfl (RdC.cons (.int _ _) rfl (RdC.cons (.int _ _) rfl (RdC.nil _))),rfl⟩
def GChoice.TV (w:World) (x:GChoice) (cs:List Value):Prop :=
 cs = [.int .i64 x.Ask,.int .i64 x.By,.bool x.Whole] ∧ (Lit.int .i64 x.Ask).wf = true ∧ (Lit.int .i64 x.By).wf = true
def GChoice.wf (x:GChoice):Prop:=I64 x.Ask ∧ I64 x.By
theorem GChoice.TV_wf (w:World) (x:GChoice) (cs:List Value) (h:GChoice.TV w x cs):GChoice.wf x:=by
 obtain ⟨e,q0,q1⟩:=h
 exact ⟨wf_i64 q0,wf_i64 q1⟩
theorem GChoice.rds:Rds GChoice.TV GChoice.cells 3:=fun w x cs h=>by
 obtain ⟨e,q0,q1⟩:=h
 subst e
 exact ⟨RdC.cons (.int _ _) rfl (RdC.cons (.int _ _) rfl (RdC.cons (.bool _) rfl (RdC.nil _))),rfl⟩
def GTerm.TV (w:World) (x:GTerm) (cs:List Value):Prop :=
 ∃ v0:Value,cs = [.int .i64 x.Op,.int .i64 x.N,v0] ∧ (Lit.int .i64 x.Op).wf = true ∧ (Lit.int .i64 x.N).wf = true ∧ Sq w (RowTV 3) 3 v0 x.Args
def GTerm.wf (x:GTerm):Prop:=I64 x.Op ∧ I64 x.N ∧ Wl (fun _=>True) x.Args
theorem GTerm.TV_wf (w:World) (x:GTerm) (cs:List Value) (h:GTerm.TV w x cs):GTerm.wf x:=by
 obtain ⟨v0,e,q0,q1,q2⟩:=h
 exact ⟨wf_i64 q0,wf_i64 q1,q2.wl (fun _ _ _ _=>trivial)⟩
theorem GTerm.rds:Rds GTerm.TV GTerm.cells 3:=fun w x cs h=>by
 obtain ⟨v0,e,q0,q1,q2⟩:=h
 subst e
 exact ⟨RdC.cons (.int _ _) rfl (RdC.cons (.int _ _) rfl (RdC.cons (q2.reads (rds_row 3)) rfl (RdC.nil _))),rfl⟩
def GRule.TV (w:World) (x:GRule) (cs:List Value):Prop :=
 ∃ v0:Value,cs = [.int .i64 x.Ask,.int .i64 x.Term.Op,.int .i64 x.Term.N,v0] ∧ (Lit.int .i64 x.Ask).wf = true ∧ (Lit.int .i64 x.Term.Op).wf = true ∧ (Lit.int .i64 x.Term.N).wf = true ∧ Sq w (RowTV 3) 3 v0 x.Term.Args
def GRule.wf (x:GRule):Prop:=I64 x.Ask ∧ GTerm.wf x.Term
theorem GRule.TV_wf (w:World) (x:GRule) (cs:List Value) (h:GRule.TV w x cs):GRule.wf x:=by
 obtain ⟨v0,e,q0,q1,q2,q3⟩:=h
 exact ⟨wf_i64 q0,⟨wf_i64 q1,wf_i64 q2,q3.wl (fun _ _ _ _=>trivial)⟩⟩
theorem GRule.rds:Rds GRule.TV GRule.cells 4:=fun w x cs h=>by
 obtain ⟨v0,e,q0,q1,q2,q3⟩:=h
 subst e
 exact ⟨RdC.cons (.int _ _) rfl (RdC.cons (.int _ _) rfl (RdC.cons (.int _ _) rfl (RdC.cons (q3.reads (rds_row 3)) rfl (RdC.nil _)))),rfl⟩
def GOrder.TV (w:World) (x:GOrder) (cs:List Value):Prop :=
 ∃ v0 v1:Value,cs = [.string x.Name,.bool x.Accepts,v0,v1] ∧ x.Name.size ≤ maxLen ∧ Sq w GChoice.TV 3 v0 x.Choices ∧ Sq w GRule.TV 4 v1 x.Rules
def GOrder.wf (x:GOrder):Prop:=Ws x.Name ∧ Wl GChoice.wf x.Choices ∧ Wl GRule.wf x.Rules
theorem GOrder.TV_wf (w:World) (x:GOrder) (cs:List Value) (h:GOrder.TV w x cs):GOrder.wf x:=by
 obtain ⟨v0,v1,e,q0,q1,q2⟩:=h
 exact ⟨ws_of q0,q1.wl GChoice.TV_wf,q2.wl GRule.TV_wf⟩
theorem GOrder.rds:Rds GOrder.TV GOrder.cells 4:=fun w x cs h=>by
 obtain ⟨v0,v1,e,q0,q1,q2⟩:=h
 subst e
 exact ⟨RdC.cons (.str _ q0) rfl (RdC.cons (.bool _) rfl (RdC.cons (q1.reads GChoice.rds) rfl (RdC.cons (q2.reads GRule.rds) rfl (RdC.nil _)))),rfl⟩
def GUsance.TV (w:World) (x:GUsance) (cs:List Value):Prop :=
 cs = [.int .i64 x.From,.int .i64 x.To,.int .i64 x.Days] ∧ (Lit.int .i64 x.From).wf = true ∧ (Lit.int .i64 x.To).wf = true ∧ (Lit.int .i64 x.Days).wf = true
def GUsance.wf (x:GUsance):Prop:=I64 x.From ∧ I64 x.To ∧ I64 x.Days
theorem GUsance.TV_wf (w:World) (x:GUsance) (cs:List Value) (h:GUsance.TV w x cs):GUsance.wf x:=by
 obtain ⟨e,q0,q1,q2⟩:=h
 exact ⟨wf_i64 q0,wf_i64 q1,wf_i64 q2⟩
theorem GUsance.rds:Rds GUsance.TV GUsance.cells 3:=fun w x cs h=>by
 obtain ⟨e,q0,q1,q2⟩:=h
 subst e
 exact ⟨RdC.cons (.int _ _) rfl (RdC.cons (.int _ _) rfl (RdC.cons (.int _ _) rfl (RdC.nil _))),rfl⟩
def GRate.TV (w:World) (x:GRate) (cs:List Value):Prop :=
 cs = [.int .i64 x.From,.int .i64 x.To,.int .i64 x.Num,.int .i64 x.Den,.int .i64 x.Since] ∧ (Lit.int .i64 x.From).wf = true ∧ (Lit.int .i64 x.To).wf = true ∧ (Lit.int .i64 x.Num).wf = true ∧ (Lit.int .i64 x.Den).wf = true ∧ (Lit.int .i64 x.Since).wf = true
def GRate.wf (x:GRate):Prop:=I64 x.From ∧ I64 x.To ∧ I64 x.Num ∧ I64 x.Den ∧ I64 x.Since
theorem GRate.TV_wf (w:World) (x:GRate) (cs:List Value) (h:GRate.TV w x cs):GRate.wf x:=by
 obtain ⟨e,q0,q1,q2,q3,q4⟩:=h
 exact ⟨wf_i64 q0,wf_i64 q1,wf_i64 q2,wf_i64 q3,wf_i64 q4⟩
theorem GRate.rds:Rds GRate.TV GRate.cells 5:=fun w x cs h=>by
 obtain ⟨e,q0,q1,q2,q3,q4⟩:=h
 subst e
 exact ⟨RdC.cons (.int _ _) rfl (RdC.cons (.int _ _) rfl (RdC.cons (.int _ _) rfl (RdC.cons (.int _ _) rfl (RdC.cons (.int _ _) rfl (RdC.nil _))))),rfl⟩
def GHalt.TV (w:World) (x:GHalt) (cs:List Value):Prop :=
 cs = [.int .i64 x.Order,.int .i64 x.From,.int .i64 x.To] ∧ (Lit.int .i64 x.Order).wf = true ∧ (Lit.int .i64 x.From).wf = true ∧ (Lit.int .i64 x.To).wf = true
def GHalt.wf (x:GHalt):Prop:=I64 x.Order ∧ I64 x.From ∧ I64 x.To
theorem GHalt.TV_wf (w:World) (x:GHalt) (cs:List Value) (h:GHalt.TV w x cs):GHalt.wf x:=by
 obtain ⟨e,q0,q1,q2⟩:=h
 exact ⟨wf_i64 q0,wf_i64 q1,wf_i64 q2⟩
theorem GHalt.rds:Rds GHalt.TV GHalt.cells 3:=fun w x cs h=>by
 obtain ⟨e,q0,q1,q2⟩:=h
 subst e
 exact ⟨RdC.cons (.int _ _) rfl (RdC.cons (.int _ _) rfl (RdC.cons (.int _ _) rfl (RdC.nil _))),rfl⟩
def GRealm.TV (w:World) (x:GRealm) (cs:List Value):Prop :=
 ∃ v0 v1 v2 v3 v4 v5 v6 v7:Value,cs = [v0,v1,v2,v3,v4,v5,v6,v7] ∧ Sq w StrTV 1 v0 x.Currencies ∧ Sq w GCity.TV 6 v1 x.Cities ∧ Sq w GGroup.TV 1 v2 x.Groups ∧ Sq w GFirm.TV 3 v3 x.Firms ∧ Sq w GOrder.TV 4 v4 x.Orders ∧ Sq w GUsance.TV 3 v5 x.Usances ∧ Sq w GRate.TV 5 v6 x.Rates ∧ Sq w GHalt.TV 3 v7 x.Halts
def GRealm.wf (x:GRealm):Prop:=Wl Ws x.Currencies ∧ Wl GCity.wf x.Cities ∧ Wl GGroup.wf x.Groups ∧ Wl GFirm.wf x.Firms ∧ Wl GOrder.wf x.Orders ∧ Wl GUsance.wf x.Usances ∧ Wl GRate.wf x.Rates ∧ Wl GHalt.wf x.Halts
theorem GRealm.TV_wf (w:World) (x:GRealm) (cs:List Value) (h:GRealm.TV w x cs):GRealm.wf x:=by
 obtain ⟨v0,v1,v2,v3,v4,v5,v6,v7,e,q0,q1,q2,q3,q4,q5,q6,q7⟩:=h
 exact ⟨q0.wl (fun w x cs h=>ws_of h.2),q1.wl GCity.TV_wf,q2.wl GGroup.TV_wf,q3.wl GFirm.TV_wf,q4.wl GOrder.TV_wf,q5.wl GUsance.TV_wf,q6.wl GRate.TV_wf,q7.wl GHalt.TV_wf⟩
theorem GRealm.rds:Rds GRealm.TV GRealm.cells 8:=fun w x cs h=>by
 obtain ⟨v0,v1,v2,v3,v4,v5,v6,v7,e,q0,q1,q2,q3,q4,q5,q6,q7⟩:=h
 subst e
 exact ⟨RdC.cons (q0.reads rds_str) rfl (RdC.cons (q1.reads GCity.rds) rfl (RdC.cons (q2.reads GGroup.rds) rfl (RdC.cons (q3.reads GFirm.rds) rfl (RdC.cons (q4.reads GOrder.rds) rfl (RdC.cons (q5.reads GUsance.rds) rfl (RdC.cons (q6.reads GRate.rds) rfl (RdC.cons (q7.reads GHalt.rds) rfl (RdC.nil _)))))))),rfl⟩
def GTenor.TV (w:World) (x:GTenor) (cs:List Value):Prop :=
 cs = [.int .i64 x.Kind,.int .i64 x.N,.int .i64 x.Unit] ∧ (Lit.int .i64 x.Kind).wf = true ∧ (Lit.int .i64 x.N).wf = true ∧ (Lit.int .i64 x.Unit).wf = true
def GTenor.wf (x:GTenor):Prop:=I64 x.Kind ∧ I64 x.N ∧ I64 x.Unit
theorem GTenor.TV_wf (w:World) (x:GTenor) (cs:List Value) (h:GTenor.TV w x cs):GTenor.wf x:=by
 obtain ⟨e,q0,q1,q2⟩:=h
 exact ⟨wf_i64 q0,wf_i64 q1,wf_i64 q2⟩
theorem GTenor.rds:Rds GTenor.TV GTenor.cells 3:=fun w x cs h=>by
 obtain ⟨e,q0,q1,q2⟩:=h
 subst e
 exact ⟨RdC.cons (.int _ _) rfl (RdC.cons (.int _ _) rfl (RdC.cons (.int _ _) rfl (RdC.nil _))),rfl⟩
theorem opens_GTenor:Opens Try.prog 33 GTenor.TV:=fun H enc w base sp held fuel cs x h=>by
 obtain ⟨xs,n,hfuel,_,hlen,hxl,hf⟩:=DataW.trod_struct Try.underlying33 h
 have hl:cs.length = 3:=hlen.trans (by kernel_rfl)
 match cs,hl with
 | [c0,c1,c2],_ =>
  obtain ⟨y0,hy0⟩ : ∃ y,xs[0]? = some y:=⟨xs[0]'(by rw [hxl]; simp),by simp⟩
  have f0:DataW.trod enc Try.prog w base sp held n 3 ((List.drop 0 [c0,c1,c2]).take (Try.prog.cellsOf 3)) = some y0:=(hf 0 _ rfl).trans hy0
  rw [show Try.prog.cellsOf 3 = 1 from by kernel_rfl] at f0
  obtain ⟨d0,t0⟩:=(opens_int Try.underlying3) H enc w base sp held n _ _ f0
  obtain ⟨y1,hy1⟩ : ∃ y,xs[1]? = some y:=⟨xs[1]'(by rw [hxl]; simp),by simp⟩
  have f1:DataW.trod enc Try.prog w base sp held n 3 ((List.drop 1 [c0,c1,c2]).take (Try.prog.cellsOf 3)) = some y1:=(hf 1 _ rfl).trans hy1
  rw [show Try.prog.cellsOf 3 = 1 from by kernel_rfl] at f1
  obtain ⟨d1,t1⟩:=(opens_int Try.underlying3) H enc w base sp held n _ _ f1
  obtain ⟨y2,hy2⟩ : ∃ y,xs[2]? = some y:=⟨xs[2]'(by rw [hxl]; simp),by simp⟩
  have f2:DataW.trod enc Try.prog w base sp held n 3 ((List.drop 2 [c0,c1,c2]).take (Try.prog.cellsOf 3)) = some y2:=(hf 2 _ rfl).trans hy2
  rw [show Try.prog.cellsOf 3 = 1 from by kernel_rfl] at f2
  obtain ⟨d2,t2⟩:=(opens_int Try.underlying3) H enc w base sp held n _ _ f2
  obtain ⟨e0,q0⟩:=t0
  obtain ⟨e1,q1⟩:=t1
  obtain ⟨e2,q2⟩:=t2
  simp at e0 e1 e2
  exact ⟨⟨d0,d1,d2⟩,by simp [e0,e1,e2],q0,q1,q2⟩
def GBill.TV (w:World) (x:GBill) (cs:List Value):Prop :=
 cs = [.int .i64 x.Drawer,.int .i64 x.Drawee,.int .i64 x.Payee,.int .i64 x.Sum,.int .i64 x.Currency,.int .i64 x.Tenor.Kind,.int .i64 x.Tenor.N,.int .i64 x.Tenor.Unit,.int .i64 x.Day,.int .i64 x.City,.int .i64 x.Pay,.int .i64 x.Need,.int .i64 x.Rate,.int .i64 x.Flags,.int .i64 x.Parts] ∧ (Lit.int .i64 x.Drawer).wf = true ∧ (Lit.int .i64 x.Drawee).wf = true ∧ (Lit.int .i64 x.Payee).wf = true ∧ (Lit.int .i64 x.Sum).wf = true ∧ (Lit.int .i64 x.Currency).wf = true ∧ (Lit.int .i64 x.Tenor.Kind).wf = true ∧ (Lit.int .i64 x.Tenor.N).wf = true ∧ (Lit.int .i64 x.Tenor.Unit).wf = true ∧ (Lit.int .i64 x.Day).wf = true ∧ (Lit.int .i64 x.City).wf = true ∧ (Lit.int .i64 x.Pay).wf = true ∧ (Lit.int .i64 x.Need).wf = true ∧ (Lit.int .i64 x.Rate).wf = true ∧ (Lit.int .i64 x.Flags).wf = true ∧ (Lit.int .i64 x.Parts).wf = true
def GBill.wf (x:GBill):Prop:=I64 x.Drawer ∧ I64 x.Drawee ∧ I64 x.Payee ∧ I64 x.Sum ∧ I64 x.Currency ∧ GTenor.wf x.Tenor ∧ I64 x.Day ∧ I64 x.City ∧ I64 x.Pay ∧ I64 x.Need ∧ I64 x.Rate ∧ I64 x.Flags ∧ I64 x.Parts
theorem GBill.TV_wf (w:World) (x:GBill) (cs:List Value) (h:GBill.TV w x cs):GBill.wf x:=by
 obtain ⟨e,q0,q1,q2,q3,q4,q5,q6,q7,q8,q9,q10,q11,q12,q13,q14⟩:=h
 exact ⟨wf_i64 q0,wf_i64 q1,wf_i64 q2,wf_i64 q3,wf_i64 q4,⟨wf_i64 q5,wf_i64 q6,wf_i64 q7⟩,wf_i64 q8,wf_i64 q9,wf_i64 q10,wf_i64 q11,wf_i64 q12,wf_i64 q13,wf_i64 q14⟩
theorem GBill.rds:Rds GBill.TV GBill.cells 15:=fun w x cs h=>by
 obtain ⟨e,q0,q1,q2,q3,q4,q5,q6,q7,q8,q9,q10,q11,q12,q13,q14⟩:=h
 subst e
 exact ⟨RdC.cons (.int _ _) rfl (RdC.cons (.int _ _) rfl (RdC.cons (.int _ _) rfl (RdC.cons (.int _ _) rfl (RdC.cons (.int _ _) rfl (RdC.cons (.int _ _) rfl (RdC.cons (.int _ _) rfl (RdC.cons (.int _ _) rfl (RdC.cons (.int _ _) rfl (RdC.cons (.int _ _) rfl (RdC.cons (.int _ _) rfl (RdC.cons (.int _ _) rfl (RdC.cons (.int _ _) rfl (RdC.cons (.int _ _) rfl (RdC.cons (.int _ _) rfl (RdC.nil _))))))))))))))),rfl⟩
theorem opens_GBill:Opens Try.prog 35 GBill.TV:=fun H enc w base sp held fuel cs x h=>by
 obtain ⟨xs,n,hfuel,_,hlen,hxl,hf⟩:=DataW.trod_struct Try.underlying35 h
 have hl:cs.length = 15:=hlen.trans (by kernel_rfl)
 match cs,hl with
 | [c0,c1,c2,c3,c4,c5,c6,c7,c8,c9,c10,c11,c12,c13,c14],_ =>
  obtain ⟨y0,hy0⟩ : ∃ y,xs[0]? = some y:=⟨xs[0]'(by rw [hxl]; simp),by simp⟩
  have f0:DataW.trod enc Try.prog w base sp held n 3 ((List.drop 0 [c0,c1,c2,c3,c4,c5,c6,c7,c8,c9,c10,c11,c12,c13,c14]).take (Try.prog.cellsOf 3)) = some y0:=(hf 0 _ rfl).trans hy0
  rw [show Try.prog.cellsOf 3 = 1 from by kernel_rfl] at f0
  obtain ⟨d0,t0⟩:=(opens_int Try.underlying3) H enc w base sp held n _ _ f0
  obtain ⟨y1,hy1⟩ : ∃ y,xs[1]? = some y:=⟨xs[1]'(by rw [hxl]; simp),by simp⟩
  have f1:DataW.trod enc Try.prog w base sp held n 3 ((List.drop 1 [c0,c1,c2,c3,c4,c5,c6,c7,c8,c9,c10,c11,c12,c13,c14]).take (Try.prog.cellsOf 3)) = some y1:=(hf 1 _ rfl).trans hy1
  rw [show Try.prog.cellsOf 3 = 1 from by kernel_rfl] at f1
  obtain ⟨d1,t1⟩:=(opens_int Try.underlying3) H enc w base sp held n _ _ f1
  obtain ⟨y2,hy2⟩ : ∃ y,xs[2]? = some y:=⟨xs[2]'(by rw [hxl]; simp),by simp⟩
  have f2:DataW.trod enc Try.prog w base sp held n 3 ((List.drop 2 [c0,c1,c2,c3,c4,c5,c6,c7,c8,c9,c10,c11,c12,c13,c14]).take (Try.prog.cellsOf 3)) = some y2:=(hf 2 _ rfl).trans hy2
  rw [show Try.prog.cellsOf 3 = 1 from by kernel_rfl] at f2
  obtain ⟨d2,t2⟩:=(opens_int Try.underlying3) H enc w base sp held n _ _ f2
  obtain ⟨y3,hy3⟩ : ∃ y,xs[3]? = some y:=⟨xs[3]'(by rw [hxl]; simp),by simp⟩
  have f3:DataW.trod enc Try.prog w base sp held n 3 ((List.drop 3 [c0,c1,c2,c3,c4,c5,c6,c7,c8,c9,c10,c11,c12,c13,c14]).take (Try.prog.cellsOf 3)) = some y3:=(hf 3 _ rfl).trans hy3
  rw [show Try.prog.cellsOf 3 = 1 from by kernel_rfl] at f3
  obtain ⟨d3,t3⟩:=(opens_int Try.underlying3) H enc w base sp held n _ _ f3
  obtain ⟨y4,hy4⟩ : ∃ y,xs[4]? = some y:=⟨xs[4]'(by rw [hxl]; simp),by simp⟩
  have f4:DataW.trod enc Try.prog w base sp held n 3 ((List.drop 4 [c0,c1,c2,c3,c4,c5,c6,c7,c8,c9,c10,c11,c12,c13,c14]).take (Try.prog.cellsOf 3)) = some y4:=(hf 4 _ rfl).trans hy4
  rw [show Try.prog.cellsOf 3 = 1 from by kernel_rfl] at f4
  obtain ⟨d4,t4⟩:=(opens_int Try.underlying3) H enc w base sp held n _ _ f4
  obtain ⟨y5,hy5⟩ : ∃ y,xs[5]? = some y:=⟨xs[5]'(by rw [hxl]; simp),by simp⟩
  have f5:DataW.trod enc Try.prog w base sp held n 33 ((List.drop 5 [c0,c1,c2,c3,c4,c5,c6,c7,c8,c9,c10,c11,c12,c13,c14]).take (Try.prog.cellsOf 33)) = some y5:=(hf 5 _ rfl).trans hy5
  rw [show Try.prog.cellsOf 33 = 3 from by kernel_rfl] at f5
  obtain ⟨d5,t5⟩:=opens_GTenor H enc w base sp held n _ _ f5
  obtain ⟨y6,hy6⟩ : ∃ y,xs[6]? = some y:=⟨xs[6]'(by rw [hxl]; simp),by simp⟩
  have f6:DataW.trod enc Try.prog w base sp held n 3 ((List.drop 8 [c0,c1,c2,c3,c4,c5,c6,c7,c8,c9,c10,c11,c12,c13,c14]).take (Try.prog.cellsOf 3)) = some y6:=(hf 6 _ rfl).trans hy6
  rw [show Try.prog.cellsOf 3 = 1 from by kernel_rfl] at f6
  obtain ⟨d6,t6⟩:=(opens_int Try.underlying3) H enc w base sp held n _ _ f6
  obtain ⟨y7,hy7⟩ : ∃ y,xs[7]? = some y:=⟨xs[7]'(by rw [hxl]; simp),by simp⟩
  have f7:DataW.trod enc Try.prog w base sp held n 3 ((List.drop 9 [c0,c1,c2,c3,c4,c5,c6,c7,c8,c9,c10,c11,c12,c13,c14]).take (Try.prog.cellsOf 3)) = some y7:=(hf 7 _ rfl).trans hy7
  rw [show Try.prog.cellsOf 3 = 1 from by kernel_rfl] at f7
  obtain ⟨d7,t7⟩:=(opens_int Try.underlying3) H enc w base sp held n _ _ f7
  obtain ⟨y8,hy8⟩ : ∃ y,xs[8]? = some y:=⟨xs[8]'(by rw [hxl]; simp),by simp⟩
  have f8:DataW.trod enc Try.prog w base sp held n 3 ((List.drop 10 [c0,c1,c2,c3,c4,c5,c6,c7,c8,c9,c10,c11,c12,c13,c14]).take (Try.prog.cellsOf 3)) = some y8:=(hf 8 _ rfl).trans hy8
  rw [show Try.prog.cellsOf 3 = 1 from by kernel_rfl] at f8
  obtain ⟨d8,t8⟩:=(opens_int Try.underlying3) H enc w base sp held n _ _ f8
  obtain ⟨y9,hy9⟩ : ∃ y,xs[9]? = some y:=⟨xs[9]'(by rw [hxl]; simp),by simp⟩
  have f9:DataW.trod enc Try.prog w base sp held n 3 ((List.drop 11 [c0,c1,c2,c3,c4,c5,c6,c7,c8,c9,c10,c11,c12,c13,c14]).take (Try.prog.cellsOf 3)) = some y9:=(hf 9 _ rfl).trans hy9
  rw [show Try.prog.cellsOf 3 = 1 from by kernel_rfl] at f9
  obtain ⟨d9,t9⟩:=(opens_int Try.underlying3) H enc w base sp held n _ _ f9
  obtain ⟨y10,hy10⟩ : ∃ y,xs[10]? = some y:=⟨xs[10]'(by rw [hxl]; simp),by simp⟩
  have f10:DataW.trod enc Try.prog w base sp held n 3 ((List.drop 12 [c0,c1,c2,c3,c4,c5,c6,c7,c8,c9,c10,c11,c12,c13,c14]).take (Try.prog.cellsOf 3)) = some y10:=(hf 10 _ rfl).trans hy10
  rw [show Try.prog.cellsOf 3 = 1 from by kernel_rfl] at f10
  obtain ⟨d10,t10⟩:=(opens_int Try.underlying3) H enc w base sp held n _ _ f10
  obtain ⟨y11,hy11⟩ : ∃ y,xs[11]? = some y:=⟨xs[11]'(by rw [hxl]; simp),by simp⟩
  have f11:DataW.trod enc Try.prog w base sp held n 3 ((List.drop 13 [c0,c1,c2,c3,c4,c5,c6,c7,c8,c9,c10,c11,c12,c13,c14]).take (Try.prog.cellsOf 3)) = some y11:=(hf 11 _ rfl).trans hy11
  rw [show Try.prog.cellsOf 3 = 1 from by kernel_rfl] at f11
  obtain ⟨d11,t11⟩:=(opens_int Try.underlying3) H enc w base sp held n _ _ f11
  obtain ⟨y12,hy12⟩ : ∃ y,xs[12]? = some y:=⟨xs[12]'(by rw [hxl]; simp),by simp⟩
  have f12:DataW.trod enc Try.prog w base sp held n 3 ((List.drop 14 [c0,c1,c2,c3,c4,c5,c6,c7,c8,c9,c10,c11,c12,c13,c14]).take (Try.prog.cellsOf 3)) = some y12:=(hf 12 _ rfl).trans hy12
  rw [show Try.prog.cellsOf 3 = 1 from by kernel_rfl] at f12
  obtain ⟨d12,t12⟩:=(opens_int Try.underlying3) H enc w base sp held n _ _ f12
  obtain ⟨e0,q0⟩:=t0
  obtain ⟨e1,q1⟩:=t1
  obtain ⟨e2,q2⟩:=t2
  obtain ⟨e3,q3⟩:=t3
  obtain ⟨e4,q4⟩:=t4
  obtain ⟨e5,q5_0,q5_1,q5_2⟩:=t5
  obtain ⟨e6,q6⟩:=t6
  obtain ⟨e7,q7⟩:=t7
  obtain ⟨e8,q8⟩:=t8
  obtain ⟨e9,q9⟩:=t9
  obtain ⟨e10,q10⟩:=t10
  obtain ⟨e11,q11⟩:=t11
  obtain ⟨e12,q12⟩:=t12
  simp at e0 e1 e2 e3 e4 e5 e6 e7 e8 e9 e10 e11 e12
  exact ⟨⟨d0,d1,d2,d3,d4,d5,d6,d7,d8,d9,d10,d11,d12⟩,by simp [e0,e1,e2,e3,e4,e5,e6,e7,e8,e9,e10,e11,e12],q0,q1,q2,q3,q4,q5_0,q5_1,q5_2,q6,q7,q8,q9,q10,q11,q12⟩
def GSign.TV (w:World) (x:GSign) (cs:List Value):Prop :=
 cs = [.int .i64 x.Kind,.int .i64 x.Part,.int .i64 x.Who,.int .i64 x.For,.int .i64 x.To,.int .i64 x.Sum,.int .i64 x.Day,.int .i64 x.City,.int .i64 x.Flags] ∧ (Lit.int .i64 x.Kind).wf = true ∧ (Lit.int .i64 x.Part).wf = true ∧ (Lit.int .i64 x.Who).wf = true ∧ (Lit.int .i64 x.For).wf = true ∧ (Lit.int .i64 x.To).wf = true ∧ (Lit.int .i64 x.Sum).wf = true ∧ (Lit.int .i64 x.Day).wf = true ∧ (Lit.int .i64 x.City).wf = true ∧ (Lit.int .i64 x.Flags).wf = true
def GSign.wf (x:GSign):Prop:=I64 x.Kind ∧ I64 x.Part ∧ I64 x.Who ∧ I64 x.For ∧ I64 x.To ∧ I64 x.Sum ∧ I64 x.Day ∧ I64 x.City ∧ I64 x.Flags
theorem GSign.TV_wf (w:World) (x:GSign) (cs:List Value) (h:GSign.TV w x cs):GSign.wf x:=by
 obtain ⟨e,q0,q1,q2,q3,q4,q5,q6,q7,q8⟩:=h
 exact ⟨wf_i64 q0,wf_i64 q1,wf_i64 q2,wf_i64 q3,wf_i64 q4,wf_i64 q5,wf_i64 q6,wf_i64 q7,wf_i64 q8⟩
theorem GSign.rds:Rds GSign.TV GSign.cells 9:=fun w x cs h=>by
 obtain ⟨e,q0,q1,q2,q3,q4,q5,q6,q7,q8⟩:=h
 subst e
 exact ⟨RdC.cons (.int _ _) rfl (RdC.cons (.int _ _) rfl (RdC.cons (.int _ _) rfl (RdC.cons (.int _ _) rfl (RdC.cons (.int _ _) rfl (RdC.cons (.int _ _) rfl (RdC.cons (.int _ _) rfl (RdC.cons (.int _ _) rfl (RdC.cons (.int _ _) rfl (RdC.nil _))))))))),rfl⟩
theorem opens_GSign:Opens Try.prog 66 GSign.TV:=fun H enc w base sp held fuel cs x h=>by
 obtain ⟨xs,n,hfuel,_,hlen,hxl,hf⟩:=DataW.trod_struct Try.underlying66 h
 have hl:cs.length = 9:=hlen.trans (by kernel_rfl)
 match cs,hl with
 | [c0,c1,c2,c3,c4,c5,c6,c7,c8],_ =>
  obtain ⟨y0,hy0⟩ : ∃ y,xs[0]? = some y:=⟨xs[0]'(by rw [hxl]; simp),by simp⟩
  have f0:DataW.trod enc Try.prog w base sp held n 3 ((List.drop 0 [c0,c1,c2,c3,c4,c5,c6,c7,c8]).take (Try.prog.cellsOf 3)) = some y0:=(hf 0 _ rfl).trans hy0
  rw [show Try.prog.cellsOf 3 = 1 from by kernel_rfl] at f0
  obtain ⟨d0,t0⟩:=(opens_int Try.underlying3) H enc w base sp held n _ _ f0
  obtain ⟨y1,hy1⟩ : ∃ y,xs[1]? = some y:=⟨xs[1]'(by rw [hxl]; simp),by simp⟩
  have f1:DataW.trod enc Try.prog w base sp held n 3 ((List.drop 1 [c0,c1,c2,c3,c4,c5,c6,c7,c8]).take (Try.prog.cellsOf 3)) = some y1:=(hf 1 _ rfl).trans hy1
  rw [show Try.prog.cellsOf 3 = 1 from by kernel_rfl] at f1
  obtain ⟨d1,t1⟩:=(opens_int Try.underlying3) H enc w base sp held n _ _ f1
  obtain ⟨y2,hy2⟩ : ∃ y,xs[2]? = some y:=⟨xs[2]'(by rw [hxl]; simp),by simp⟩
  have f2:DataW.trod enc Try.prog w base sp held n 3 ((List.drop 2 [c0,c1,c2,c3,c4,c5,c6,c7,c8]).take (Try.prog.cellsOf 3)) = some y2:=(hf 2 _ rfl).trans hy2
  rw [show Try.prog.cellsOf 3 = 1 from by kernel_rfl] at f2
  obtain ⟨d2,t2⟩:=(opens_int Try.underlying3) H enc w base sp held n _ _ f2
  obtain ⟨y3,hy3⟩ : ∃ y,xs[3]? = some y:=⟨xs[3]'(by rw [hxl]; simp),by simp⟩
  have f3:DataW.trod enc Try.prog w base sp held n 3 ((List.drop 3 [c0,c1,c2,c3,c4,c5,c6,c7,c8]).take (Try.prog.cellsOf 3)) = some y3:=(hf 3 _ rfl).trans hy3
  rw [show Try.prog.cellsOf 3 = 1 from by kernel_rfl] at f3
  obtain ⟨d3,t3⟩:=(opens_int Try.underlying3) H enc w base sp held n _ _ f3
  obtain ⟨y4,hy4⟩ : ∃ y,xs[4]? = some y:=⟨xs[4]'(by rw [hxl]; simp),by simp⟩
  have f4:DataW.trod enc Try.prog w base sp held n 3 ((List.drop 4 [c0,c1,c2,c3,c4,c5,c6,c7,c8]).take (Try.prog.cellsOf 3)) = some y4:=(hf 4 _ rfl).trans hy4
  rw [show Try.prog.cellsOf 3 = 1 from by kernel_rfl] at f4
  obtain ⟨d4,t4⟩:=(opens_int Try.underlying3) H enc w base sp held n _ _ f4
  obtain ⟨y5,hy5⟩ : ∃ y,xs[5]? = some y:=⟨xs[5]'(by rw [hxl]; simp),by simp⟩
  have f5:DataW.trod enc Try.prog w base sp held n 3 ((List.drop 5 [c0,c1,c2,c3,c4,c5,c6,c7,c8]).take (Try.prog.cellsOf 3)) = some y5:=(hf 5 _ rfl).trans hy5
  rw [show Try.prog.cellsOf 3 = 1 from by kernel_rfl] at f5
  obtain ⟨d5,t5⟩:=(opens_int Try.underlying3) H enc w base sp held n _ _ f5
  obtain ⟨y6,hy6⟩ : ∃ y,xs[6]? = some y:=⟨xs[6]'(by rw [hxl]; simp),by simp⟩
  have f6:DataW.trod enc Try.prog w base sp held n 3 ((List.drop 6 [c0,c1,c2,c3,c4,c5,c6,c7,c8]).take (Try.prog.cellsOf 3)) = some y6:=(hf 6 _ rfl).trans hy6
  rw [show Try.prog.cellsOf 3 = 1 from by kernel_rfl] at f6
  obtain ⟨d6,t6⟩:=(opens_int Try.underlying3) H enc w base sp held n _ _ f6
  obtain ⟨y7,hy7⟩ : ∃ y,xs[7]? = some y:=⟨xs[7]'(by rw [hxl]; simp),by simp⟩
  have f7:DataW.trod enc Try.prog w base sp held n 3 ((List.drop 7 [c0,c1,c2,c3,c4,c5,c6,c7,c8]).take (Try.prog.cellsOf 3)) = some y7:=(hf 7 _ rfl).trans hy7
  rw [show Try.prog.cellsOf 3 = 1 from by kernel_rfl] at f7
  obtain ⟨d7,t7⟩:=(opens_int Try.underlying3) H enc w base sp held n _ _ f7
  obtain ⟨y8,hy8⟩ : ∃ y,xs[8]? = some y:=⟨xs[8]'(by rw [hxl]; simp),by simp⟩
  have f8:DataW.trod enc Try.prog w base sp held n 3 ((List.drop 8 [c0,c1,c2,c3,c4,c5,c6,c7,c8]).take (Try.prog.cellsOf 3)) = some y8:=(hf 8 _ rfl).trans hy8
  rw [show Try.prog.cellsOf 3 = 1 from by kernel_rfl] at f8
  obtain ⟨d8,t8⟩:=(opens_int Try.underlying3) H enc w base sp held n _ _ f8
  obtain ⟨e0,q0⟩:=t0
  obtain ⟨e1,q1⟩:=t1
  obtain ⟨e2,q2⟩:=t2
  obtain ⟨e3,q3⟩:=t3
  obtain ⟨e4,q4⟩:=t4
  obtain ⟨e5,q5⟩:=t5
  obtain ⟨e6,q6⟩:=t6
  obtain ⟨e7,q7⟩:=t7
  obtain ⟨e8,q8⟩:=t8
  simp at e0 e1 e2 e3 e4 e5 e6 e7 e8
  exact ⟨⟨d0,d1,d2,d3,d4,d5,d6,d7,d8⟩,by simp [e0,e1,e2,e3,e4,e5,e6,e7,e8],q0,q1,q2,q3,q4,q5,q6,q7,q8⟩
def GAlter.TV (w:World) (x:GAlter) (cs:List Value):Prop :=
 cs = [.int .i64 x.At,.int .i64 x.Sum] ∧ (Lit.int .i64 x.At).wf = true ∧ (Lit.int .i64 x.Sum).wf = true
def GAlter.wf (x:GAlter):Prop:=I64 x.At ∧ I64 x.Sum
theorem GAlter.TV_wf (w:World) (x:GAlter) (cs:List Value) (h:GAlter.TV w x cs):GAlter.wf x:=by
 obtain ⟨e,q0,q1⟩:=h
 exact ⟨wf_i64 q0,wf_i64 q1⟩
theorem GAlter.rds:Rds GAlter.TV GAlter.cells 2:=fun w x cs h=>by
 obtain ⟨e,q0,q1⟩:=h
 subst e
 exact ⟨RdC.cons (.int _ _) rfl (RdC.cons (.int _ _) rfl (RdC.nil _)),rfl⟩
theorem opens_GAlter:Opens Try.prog 72 GAlter.TV:=fun H enc w base sp held fuel cs x h=>by
 obtain ⟨xs,n,hfuel,_,hlen,hxl,hf⟩:=DataW.trod_struct Try.underlying72 h
 have hl:cs.length = 2:=hlen.trans (by kernel_rfl)
 match cs,hl with
 | [c0,c1],_ =>
  obtain ⟨y0,hy0⟩ : ∃ y,xs[0]? = some y:=⟨xs[0]'(by rw [hxl]; simp),by simp⟩
  have f0:DataW.trod enc Try.prog w base sp held n 3 ((List.drop 0 [c0,c1]).take (Try.prog.cellsOf 3)) = some y0:=(hf 0 _ rfl).trans hy0
  rw [show Try.prog.cellsOf 3 = 1 from by kernel_rfl] at f0
  obtain ⟨d0,t0⟩:=(opens_int Try.underlying3) H enc w base sp held n _ _ f0
  obtain ⟨y1,hy1⟩ : ∃ y,xs[1]? = some y:=⟨xs[1]'(by rw [hxl]; simp),by simp⟩
  have f1:DataW.trod enc Try.prog w base sp held n 3 ((List.drop 1 [c0,c1]).take (Try.prog.cellsOf 3)) = some y1:=(hf 1 _ rfl).trans hy1
  rw [show Try.prog.cellsOf 3 = 1 from by kernel_rfl] at f1
  obtain ⟨d1,t1⟩:=(opens_int Try.underlying3) H enc w base sp held n _ _ f1
  obtain ⟨e0,q0⟩:=t0
  obtain ⟨e1,q1⟩:=t1
  simp at e0 e1
  exact ⟨⟨d0,d1⟩,by simp [e0,e1],q0,q1⟩
def GAct.TV (w:World) (x:GAct) (cs:List Value):Prop :=
 cs = [.int .i64 x.Kind,.int .i64 x.Who,.int .i64 x.To,.int .i64 x.Part,.int .i64 x.At,.int .i64 x.Sum,.int .i64 x.Day,.int .i64 x.City,.int .i64 x.Form] ∧ (Lit.int .i64 x.Kind).wf = true ∧ (Lit.int .i64 x.Who).wf = true ∧ (Lit.int .i64 x.To).wf = true ∧ (Lit.int .i64 x.Part).wf = true ∧ (Lit.int .i64 x.At).wf = true ∧ (Lit.int .i64 x.Sum).wf = true ∧ (Lit.int .i64 x.Day).wf = true ∧ (Lit.int .i64 x.City).wf = true ∧ (Lit.int .i64 x.Form).wf = true
def GAct.wf (x:GAct):Prop:=I64 x.Kind ∧ I64 x.Who ∧ I64 x.To ∧ I64 x.Part ∧ I64 x.At ∧ I64 x.Sum ∧ I64 x.Day ∧ I64 x.City ∧ I64 x.Form
theorem GAct.TV_wf (w:World) (x:GAct) (cs:List Value) (h:GAct.TV w x cs):GAct.wf x:=by
 obtain ⟨e,q0,q1,q2,q3,q4,q5,q6,q7,q8⟩:=h
 exact ⟨wf_i64 q0,wf_i64 q1,wf_i64 q2,wf_i64 q3,wf_i64 q4,wf_i64 q5,wf_i64 q6,wf_i64 q7,wf_i64 q8⟩
theorem GAct.rds:Rds GAct.TV GAct.cells 9:=fun w x cs h=>by
 obtain ⟨e,q0,q1,q2,q3,q4,q5,q6,q7,q8⟩:=h
 subst e
 exact ⟨RdC.cons (.int _ _) rfl (RdC.cons (.int _ _) rfl (RdC.cons (.int _ _) rfl (RdC.cons (.int _ _) rfl (RdC.cons (.int _ _) rfl (RdC.cons (.int _ _) rfl (RdC.cons (.int _ _) rfl (RdC.cons (.int _ _) rfl (RdC.cons (.int _ _) rfl (RdC.nil _))))))))),rfl⟩
theorem opens_GAct:Opens Try.prog 81 GAct.TV:=fun H enc w base sp held fuel cs x h=>by
 obtain ⟨xs,n,hfuel,_,hlen,hxl,hf⟩:=DataW.trod_struct Try.underlying81 h
 have hl:cs.length = 9:=hlen.trans (by kernel_rfl)
 match cs,hl with
 | [c0,c1,c2,c3,c4,c5,c6,c7,c8],_ =>
  obtain ⟨y0,hy0⟩ : ∃ y,xs[0]? = some y:=⟨xs[0]'(by rw [hxl]; simp),by simp⟩
  have f0:DataW.trod enc Try.prog w base sp held n 3 ((List.drop 0 [c0,c1,c2,c3,c4,c5,c6,c7,c8]).take (Try.prog.cellsOf 3)) = some y0:=(hf 0 _ rfl).trans hy0
  rw [show Try.prog.cellsOf 3 = 1 from by kernel_rfl] at f0
  obtain ⟨d0,t0⟩:=(opens_int Try.underlying3) H enc w base sp held n _ _ f0
  obtain ⟨y1,hy1⟩ : ∃ y,xs[1]? = some y:=⟨xs[1]'(by rw [hxl]; simp),by simp⟩
  have f1:DataW.trod enc Try.prog w base sp held n 3 ((List.drop 1 [c0,c1,c2,c3,c4,c5,c6,c7,c8]).take (Try.prog.cellsOf 3)) = some y1:=(hf 1 _ rfl).trans hy1
  rw [show Try.prog.cellsOf 3 = 1 from by kernel_rfl] at f1
  obtain ⟨d1,t1⟩:=(opens_int Try.underlying3) H enc w base sp held n _ _ f1
  obtain ⟨y2,hy2⟩ : ∃ y,xs[2]? = some y:=⟨xs[2]'(by rw [hxl]; simp),by simp⟩
  have f2:DataW.trod enc Try.prog w base sp held n 3 ((List.drop 2 [c0,c1,c2,c3,c4,c5,c6,c7,c8]).take (Try.prog.cellsOf 3)) = some y2:=(hf 2 _ rfl).trans hy2
  rw [show Try.prog.cellsOf 3 = 1 from by kernel_rfl] at f2
  obtain ⟨d2,t2⟩:=(opens_int Try.underlying3) H enc w base sp held n _ _ f2
  obtain ⟨y3,hy3⟩ : ∃ y,xs[3]? = some y:=⟨xs[3]'(by rw [hxl]; simp),by simp⟩
  have f3:DataW.trod enc Try.prog w base sp held n 3 ((List.drop 3 [c0,c1,c2,c3,c4,c5,c6,c7,c8]).take (Try.prog.cellsOf 3)) = some y3:=(hf 3 _ rfl).trans hy3
  rw [show Try.prog.cellsOf 3 = 1 from by kernel_rfl] at f3
  obtain ⟨d3,t3⟩:=(opens_int Try.underlying3) H enc w base sp held n _ _ f3
  obtain ⟨y4,hy4⟩ : ∃ y,xs[4]? = some y:=⟨xs[4]'(by rw [hxl]; simp),by simp⟩
  have f4:DataW.trod enc Try.prog w base sp held n 3 ((List.drop 4 [c0,c1,c2,c3,c4,c5,c6,c7,c8]).take (Try.prog.cellsOf 3)) = some y4:=(hf 4 _ rfl).trans hy4
  rw [show Try.prog.cellsOf 3 = 1 from by kernel_rfl] at f4
  obtain ⟨d4,t4⟩:=(opens_int Try.underlying3) H enc w base sp held n _ _ f4
  obtain ⟨y5,hy5⟩ : ∃ y,xs[5]? = some y:=⟨xs[5]'(by rw [hxl]; simp),by simp⟩
  have f5:DataW.trod enc Try.prog w base sp held n 3 ((List.drop 5 [c0,c1,c2,c3,c4,c5,c6,c7,c8]).take (Try.prog.cellsOf 3)) = some y5:=(hf 5 _ rfl).trans hy5
  rw [show Try.prog.cellsOf 3 = 1 from by kernel_rfl] at f5
  obtain ⟨d5,t5⟩:=(opens_int Try.underlying3) H enc w base sp held n _ _ f5
  obtain ⟨y6,hy6⟩ : ∃ y,xs[6]? = some y:=⟨xs[6]'(by rw [hxl]; simp),by simp⟩
  have f6:DataW.trod enc Try.prog w base sp held n 3 ((List.drop 6 [c0,c1,c2,c3,c4,c5,c6,c7,c8]).take (Try.prog.cellsOf 3)) = some y6:=(hf 6 _ rfl).trans hy6
  rw [show Try.prog.cellsOf 3 = 1 from by kernel_rfl] at f6
  obtain ⟨d6,t6⟩:=(opens_int Try.underlying3) H enc w base sp held n _ _ f6
  obtain ⟨y7,hy7⟩ : ∃ y,xs[7]? = some y:=⟨xs[7]'(by rw [hxl]; simp),by simp⟩
  have f7:DataW.trod enc Try.prog w base sp held n 3 ((List.drop 7 [c0,c1,c2,c3,c4,c5,c6,c7,c8]).take (Try.prog.cellsOf 3)) = some y7:=(hf 7 _ rfl).trans hy7
  rw [show Try.prog.cellsOf 3 = 1 from by kernel_rfl] at f7
  obtain ⟨d7,t7⟩:=(opens_int Try.underlying3) H enc w base sp held n _ _ f7
  obtain ⟨y8,hy8⟩ : ∃ y,xs[8]? = some y:=⟨xs[8]'(by rw [hxl]; simp),by simp⟩
  have f8:DataW.trod enc Try.prog w base sp held n 3 ((List.drop 8 [c0,c1,c2,c3,c4,c5,c6,c7,c8]).take (Try.prog.cellsOf 3)) = some y8:=(hf 8 _ rfl).trans hy8
  rw [show Try.prog.cellsOf 3 = 1 from by kernel_rfl] at f8
  obtain ⟨d8,t8⟩:=(opens_int Try.underlying3) H enc w base sp held n _ _ f8
  obtain ⟨e0,q0⟩:=t0
  obtain ⟨e1,q1⟩:=t1
  obtain ⟨e2,q2⟩:=t2
  obtain ⟨e3,q3⟩:=t3
  obtain ⟨e4,q4⟩:=t4
  obtain ⟨e5,q5⟩:=t5
  obtain ⟨e6,q6⟩:=t6
  obtain ⟨e7,q7⟩:=t7
  obtain ⟨e8,q8⟩:=t8
  simp at e0 e1 e2 e3 e4 e5 e6 e7 e8
  exact ⟨⟨d0,d1,d2,d3,d4,d5,d6,d7,d8⟩,by simp [e0,e1,e2,e3,e4,e5,e6,e7,e8],q0,q1,q2,q3,q4,q5,q6,q7,q8⟩
def GFact.TV (w:World) (x:GFact) (cs:List Value):Prop :=
 cs = [.int .i64 x.Kind,.int .i64 x.At,.int .i64 x.N] ∧ (Lit.int .i64 x.Kind).wf = true ∧ (Lit.int .i64 x.At).wf = true ∧ (Lit.int .i64 x.N).wf = true
def GFact.wf (x:GFact):Prop:=I64 x.Kind ∧ I64 x.At ∧ I64 x.N
theorem GFact.TV_wf (w:World) (x:GFact) (cs:List Value) (h:GFact.TV w x cs):GFact.wf x:=by
 obtain ⟨e,q0,q1,q2⟩:=h
 exact ⟨wf_i64 q0,wf_i64 q1,wf_i64 q2⟩
theorem GFact.rds:Rds GFact.TV GFact.cells 3:=fun w x cs h=>by
 obtain ⟨e,q0,q1,q2⟩:=h
 subst e
 exact ⟨RdC.cons (.int _ _) rfl (RdC.cons (.int _ _) rfl (RdC.cons (.int _ _) rfl (RdC.nil _))),rfl⟩
theorem opens_GFact:Opens Try.prog 58 GFact.TV:=fun H enc w base sp held fuel cs x h=>by
 obtain ⟨xs,n,hfuel,_,hlen,hxl,hf⟩:=DataW.trod_struct Try.underlying58 h
 have hl:cs.length = 3:=hlen.trans (by kernel_rfl)
 match cs,hl with
 | [c0,c1,c2],_ =>
  obtain ⟨y0,hy0⟩ : ∃ y,xs[0]? = some y:=⟨xs[0]'(by rw [hxl]; simp),by simp⟩
  have f0:DataW.trod enc Try.prog w base sp held n 3 ((List.drop 0 [c0,c1,c2]).take (Try.prog.cellsOf 3)) = some y0:=(hf 0 _ rfl).trans hy0
  rw [show Try.prog.cellsOf 3 = 1 from by kernel_rfl] at f0
  obtain ⟨d0,t0⟩:=(opens_int Try.underlying3) H enc w base sp held n _ _ f0
  obtain ⟨y1,hy1⟩ : ∃ y,xs[1]? = some y:=⟨xs[1]'(by rw [hxl]; simp),by simp⟩
  have f1:DataW.trod enc Try.prog w base sp held n 3 ((List.drop 1 [c0,c1,c2]).take (Try.prog.cellsOf 3)) = some y1:=(hf 1 _ rfl).trans hy1
  rw [show Try.prog.cellsOf 3 = 1 from by kernel_rfl] at f1
  obtain ⟨d1,t1⟩:=(opens_int Try.underlying3) H enc w base sp held n _ _ f1
  obtain ⟨y2,hy2⟩ : ∃ y,xs[2]? = some y:=⟨xs[2]'(by rw [hxl]; simp),by simp⟩
  have f2:DataW.trod enc Try.prog w base sp held n 3 ((List.drop 2 [c0,c1,c2]).take (Try.prog.cellsOf 3)) = some y2:=(hf 2 _ rfl).trans hy2
  rw [show Try.prog.cellsOf 3 = 1 from by kernel_rfl] at f2
  obtain ⟨d2,t2⟩:=(opens_int Try.underlying3) H enc w base sp held n _ _ f2
  obtain ⟨e0,q0⟩:=t0
  obtain ⟨e1,q1⟩:=t1
  obtain ⟨e2,q2⟩:=t2
  simp at e0 e1 e2
  exact ⟨⟨d0,d1,d2⟩,by simp [e0,e1,e2],q0,q1,q2⟩
def GFile.TV (w:World) (x:GFile) (cs:List Value):Prop :=
 ∃ v0 v1 v2 v3:Value,cs = [.int .i64 x.Bill.Drawer,.int .i64 x.Bill.Drawee,.int .i64 x.Bill.Payee,.int .i64 x.Bill.Sum,.int .i64 x.Bill.Currency,.int .i64 x.Bill.Tenor.Kind,.int .i64 x.Bill.Tenor.N,.int .i64 x.Bill.Tenor.Unit,.int .i64 x.Bill.Day,.int .i64 x.Bill.City,.int .i64 x.Bill.Pay,.int .i64 x.Bill.Need,.int .i64 x.Bill.Rate,.int .i64 x.Bill.Flags,.int .i64 x.Bill.Parts,v0,v1,v2,v3] ∧ (Lit.int .i64 x.Bill.Drawer).wf = true ∧ (Lit.int .i64 x.Bill.Drawee).wf = true ∧ (Lit.int .i64 x.Bill.Payee).wf = true ∧ (Lit.int .i64 x.Bill.Sum).wf = true ∧ (Lit.int .i64 x.Bill.Currency).wf = true ∧ (Lit.int .i64 x.Bill.Tenor.Kind).wf = true ∧ (Lit.int .i64 x.Bill.Tenor.N).wf = true ∧ (Lit.int .i64 x.Bill.Tenor.Unit).wf = true ∧ (Lit.int .i64 x.Bill.Day).wf = true ∧ (Lit.int .i64 x.Bill.City).wf = true ∧ (Lit.int .i64 x.Bill.Pay).wf = true ∧ (Lit.int .i64 x.Bill.Need).wf = true ∧ (Lit.int .i64 x.Bill.Rate).wf = true ∧ (Lit.int .i64 x.Bill.Flags).wf = true ∧ (Lit.int .i64 x.Bill.Parts).wf = true ∧ Sq w GSign.TV 9 v0 x.Signs ∧ Sq w GAlter.TV 2 v1 x.Alters ∧ Sq w GAct.TV 9 v2 x.Acts ∧ Sq w GFact.TV 3 v3 x.Facts
def GFile.wf (x:GFile):Prop:=GBill.wf x.Bill ∧ Wl GSign.wf x.Signs ∧ Wl GAlter.wf x.Alters ∧ Wl GAct.wf x.Acts ∧ Wl GFact.wf x.Facts
theorem GFile.TV_wf (w:World) (x:GFile) (cs:List Value) (h:GFile.TV w x cs):GFile.wf x:=by
 obtain ⟨v0,v1,v2,v3,e,q0,q1,q2,q3,q4,q5,q6,q7,q8,q9,q10,q11,q12,q13,q14,q15,q16,q17,q18⟩:=h
 exact ⟨⟨wf_i64 q0,wf_i64 q1,wf_i64 q2,wf_i64 q3,wf_i64 q4,⟨wf_i64 q5,wf_i64 q6,wf_i64 q7⟩,wf_i64 q8,wf_i64 q9,wf_i64 q10,wf_i64 q11,wf_i64 q12,wf_i64 q13,wf_i64 q14⟩,q15.wl GSign.TV_wf,q16.wl GAlter.TV_wf,q17.wl GAct.TV_wf,q18.wl GFact.TV_wf⟩
theorem GFile.rds:Rds GFile.TV GFile.cells 19:=fun w x cs h=>by
 obtain ⟨v0,v1,v2,v3,e,q0,q1,q2,q3,q4,q5,q6,q7,q8,q9,q10,q11,q12,q13,q14,q15,q16,q17,q18⟩:=h
 subst e
 exact ⟨RdC.cons (.int _ _) rfl (RdC.cons (.int _ _) rfl (RdC.cons (.int _ _) rfl (RdC.cons (.int _ _) rfl (RdC.cons (.int _ _) rfl (RdC.cons (.int _ _) rfl (RdC.cons (.int _ _) rfl (RdC.cons (.int _ _) rfl (RdC.cons (.int _ _) rfl (RdC.cons (.int _ _) rfl (RdC.cons (.int _ _) rfl (RdC.cons (.int _ _) rfl (RdC.cons (.int _ _) rfl (RdC.cons (.int _ _) rfl (RdC.cons (.int _ _) rfl (RdC.cons (q15.reads GSign.rds) rfl (RdC.cons (q16.reads GAlter.rds) rfl (RdC.cons (q17.reads GAct.rds) rfl (RdC.cons (q18.reads GFact.rds) rfl (RdC.nil _))))))))))))))))))),rfl⟩
theorem opens_GFile:Opens Try.prog 41 GFile.TV:=fun H enc w base sp held fuel cs x h=>by
 obtain ⟨xs,n,hfuel,_,hlen,hxl,hf⟩:=DataW.trod_struct Try.underlying41 h
 have hl:cs.length = 19:=hlen.trans (by kernel_rfl)
 match cs,hl with
 | [c0,c1,c2,c3,c4,c5,c6,c7,c8,c9,c10,c11,c12,c13,c14,c15,c16,c17,c18],_ =>
  obtain ⟨y0,hy0⟩ : ∃ y,xs[0]? = some y:=⟨xs[0]'(by rw [hxl]; simp),by simp⟩
  have f0:DataW.trod enc Try.prog w base sp held n 35 ((List.drop 0 [c0,c1,c2,c3,c4,c5,c6,c7,c8,c9,c10,c11,c12,c13,c14,c15,c16,c17,c18]).take (Try.prog.cellsOf 35)) = some y0:=(hf 0 _ rfl).trans hy0
  rw [show Try.prog.cellsOf 35 = 15 from by kernel_rfl] at f0
  obtain ⟨d0,t0⟩:=opens_GBill H enc w base sp held n _ _ f0
  obtain ⟨y1,hy1⟩ : ∃ y,xs[1]? = some y:=⟨xs[1]'(by rw [hxl]; simp),by simp⟩
  have f1:DataW.trod enc Try.prog w base sp held n 36 ((List.drop 15 [c0,c1,c2,c3,c4,c5,c6,c7,c8,c9,c10,c11,c12,c13,c14,c15,c16,c17,c18]).take (Try.prog.cellsOf 36)) = some y1:=(hf 1 _ rfl).trans hy1
  rw [show Try.prog.cellsOf 36 = 1 from by kernel_rfl] at f1
  obtain ⟨d1,t1⟩:=(opens_slice (k:=9) Try.underlying36 (by kernel_rfl) (by omega) opens_GSign) H enc w base sp held n _ _ f1
  obtain ⟨y2,hy2⟩ : ∃ y,xs[2]? = some y:=⟨xs[2]'(by rw [hxl]; simp),by simp⟩
  have f2:DataW.trod enc Try.prog w base sp held n 37 ((List.drop 16 [c0,c1,c2,c3,c4,c5,c6,c7,c8,c9,c10,c11,c12,c13,c14,c15,c16,c17,c18]).take (Try.prog.cellsOf 37)) = some y2:=(hf 2 _ rfl).trans hy2
  rw [show Try.prog.cellsOf 37 = 1 from by kernel_rfl] at f2
  obtain ⟨d2,t2⟩:=(opens_slice (k:=2) Try.underlying37 (by kernel_rfl) (by omega) opens_GAlter) H enc w base sp held n _ _ f2
  obtain ⟨y3,hy3⟩ : ∃ y,xs[3]? = some y:=⟨xs[3]'(by rw [hxl]; simp),by simp⟩
  have f3:DataW.trod enc Try.prog w base sp held n 38 ((List.drop 17 [c0,c1,c2,c3,c4,c5,c6,c7,c8,c9,c10,c11,c12,c13,c14,c15,c16,c17,c18]).take (Try.prog.cellsOf 38)) = some y3:=(hf 3 _ rfl).trans hy3
  rw [show Try.prog.cellsOf 38 = 1 from by kernel_rfl] at f3
  obtain ⟨d3,t3⟩:=(opens_slice (k:=9) Try.underlying38 (by kernel_rfl) (by omega) opens_GAct) H enc w base sp held n _ _ f3
  obtain ⟨y4,hy4⟩ : ∃ y,xs[4]? = some y:=⟨xs[4]'(by rw [hxl]; simp),by simp⟩
  have f4:DataW.trod enc Try.prog w base sp held n 39 ((List.drop 18 [c0,c1,c2,c3,c4,c5,c6,c7,c8,c9,c10,c11,c12,c13,c14,c15,c16,c17,c18]).take (Try.prog.cellsOf 39)) = some y4:=(hf 4 _ rfl).trans hy4
  rw [show Try.prog.cellsOf 39 = 1 from by kernel_rfl] at f4
  obtain ⟨d4,t4⟩:=(opens_slice (k:=3) Try.underlying39 (by kernel_rfl) (by omega) opens_GFact) H enc w base sp held n _ _ f4
  obtain ⟨e0,q0_0,q0_1,q0_2,q0_3,q0_4,q0_5,q0_6,q0_7,q0_8,q0_9,q0_10,q0_11,q0_12,q0_13,q0_14⟩:=t0
  obtain ⟨u1,e1,q1⟩:=t1
  obtain ⟨u2,e2,q2⟩:=t2
  obtain ⟨u3,e3,q3⟩:=t3
  obtain ⟨u4,e4,q4⟩:=t4
  simp at e0 e1 e2 e3 e4
  exact ⟨⟨d0,d1,d2,d3,d4⟩,u1,u2,u3,u4,by simp [e0,e1,e2,e3,e4],q0_0,q0_1,q0_2,q0_3,q0_4,q0_5,q0_6,q0_7,q0_8,q0_9,q0_10,q0_11,q0_12,q0_13,q0_14,q1,q2,q3,q4⟩
end Go.Proofs.Ytfhebiceipgdmaa
