/- How what a law is handed reads. Printed by a program. -/
import Derived.Test.YtmekbfccmnjdcaaVmG
import Derived.Test.YtmekbfccmnjdcaaTab
import Derived.KernelRfl
set_option linter.unusedVariables false
set_option maxRecDepth 100000
namespace Go.Proofs.Ytmekbfccmnjdcaa
open Go.RowKit Go.ChangeShapes Go.WideShapes Go.Deep Vm
def GLean.TV (w:World) (x:GLean) (cs:List Value):Prop :=
 ∃ v0:Value,cs = [v0] ∧ Sq w (SqTV IntTV 1 8) 1 24 v0 x.Supports
def GLean.wf (x:GLean):Prop:=Wl (Wl I64) x.Supports
theorem GLean.TV_wf (w:World) (x:GLean) (cs:List Value) (h:GLean.TV w x cs):GLean.wf x:=by
 obtain ⟨v0,e,q0⟩:=h
 exact q0.wl (fun w x cs h=>by obtain ⟨v,_,q⟩:=h; exact q.wl (fun w x cs h=>wf_i64 h.2))
theorem GLean.rds:Rds GLean.TV GLean.cells 1:=fun w x cs h=>by
 obtain ⟨v0,e,q0⟩:=h
 subst e
 exact ⟨RdC.cons (q0.reads (rds_slice rds_int)) rfl (RdC.nil _),rfl⟩
theorem opens_GLean:Opens Try.prog 39 GLean.TV:=fun H enc w base sp held fuel cs x h hL=>by
 obtain ⟨xs,n,hfuel,hxx,hlen,hxl,hf⟩:=DataW.trod_struct Try.underlying39 h
 subst hxx
 have hl:cs.length = 1:=hlen.trans (by kernel_rfl)
 match cs,hl with
 | [c0],_ =>
  obtain ⟨y0,hy0⟩ : ∃ y,xs[0]? = some y:=⟨xs[0]'(by rw [hxl]; simp),by simp⟩
  have f0:DataW.trod enc Try.prog w base sp held n 37 ((List.drop 0 [c0]).take (Try.prog.cellsOf 37)) = some y0:=(hf 0 _ rfl).trans hy0
  rw [show Try.prog.cellsOf 37 = 1 from by kernel_rfl] at f0
  have g0:=Light.part (P:=Try.prog) Try.underlying39 (i:=0) rfl hy0 hL
  obtain ⟨d0,t0⟩:=(opens_slice (k:=1) (bt:=24) Try.underlying37 (by kernel_rfl) (by kernel_rfl) (by omega) (opens_slice (k:=1) (bt:=8) Try.underlying24 (by kernel_rfl) (by kernel_rfl) (by omega) (opens_int Try.underlying3))) H enc w base sp held n _ _ f0 g0
  obtain ⟨u0,e0,q0⟩:=t0
  simp at e0
  exact ⟨⟨d0⟩,u0,by simp [e0],q0⟩
end Go.Proofs.Ytmekbfccmnjdcaa
