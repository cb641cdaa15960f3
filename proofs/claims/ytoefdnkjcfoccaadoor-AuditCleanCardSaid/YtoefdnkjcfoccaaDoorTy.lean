/- Types in memory. -/
import Derived.Test.YtoefdnkjcfoccaaDoorVmG
import Derived.Test.YtoefdnkjcfoccaaDoorTab
import Derived.KernelRfl
set_option linter.unusedVariables false
set_option maxRecDepth 100000
namespace Go.Proofs.YtoefdnkjcfoccaaDoor
open Go.RowKit Go.ChangeShapes Go.WideShapes Go.Deep Vm
def aX.TV (w:World) (x:aX) (cs:List Value):Prop :=
 ∃ v0 v1 v2:Value,cs = [.string x.Name,.int .i64 x.Order,.int .i64 x.Currency,v0,v1,v2] ∧ x.Name.size <= maxLen ∧ (Lit.int .i64 x.Order).wf = true ∧ (Lit.int .i64 x.Currency).wf = true ∧ Sq w WS 1 8 v0 x.Rest ∧ Sq w WS 1 8 v1 x.Feasts ∧ Sq w WS 1 8 v2 x.Shut
def aX.wf (x:aX):Prop:=Ws x.Name ∧ PA x.Order ∧ PA x.Currency ∧ Wl PA x.Rest ∧ Wl PA x.Feasts ∧ Wl PA x.Shut
theorem aX.TV_wf (w:World) (x:aX) (cs:List Value) (h:aX.TV w x cs):aX.wf x:=by
 obtain ⟨v0,v1,v2,e,q0,q1,q2,q3,q4,q5⟩:=h
 exact ⟨aFg q0,jU q1,jU q2,q3.wl (fun w x cs h=>jU h.2),q4.wl (fun w x cs h=>jU h.2),q5.wl (fun w x cs h=>jU h.2)⟩
theorem aX.rds:Rds aX.TV aX.cells 6:=fun w x cs h=>by
 obtain ⟨v0,v1,v2,e,q0,q1,q2,q3,q4,q5⟩:=h
 subst e
 exact ⟨uT.cons (.str _ q0) rfl (uT.cons (.int _ _) rfl (uT.cons (.int _ _) rfl (uT.cons (q3.reads SC) rfl (uT.cons (q4.reads SC) rfl (uT.cons (q5.reads SC) rfl (uT.nil _)))))),rfl⟩
theorem aAn:CI Tryd.prog 77 aX.TV:=fun H enc w base sp held fuel cs x h hL=>by
 obtain ⟨xs,n,hfuel,hxx,hlen,hxl,hf⟩:=DataW.trod_struct Tryd.underlying77 h
 subst hxx
 have hl:cs.length = 6:=hlen.trans (by kernel_rfl)
 match cs,hl with
 | [c0,c1,c2,c3,c4,c5],_ =>
  obtain ⟨y0,hy0⟩ : ∃ y,xs[0]? = some y:=⟨xs[0]'(by rw [hxl]; simp),by simp⟩
  have f0:DataW.trod enc Tryd.prog w base sp held n 9 ((List.drop 0 [c0,c1,c2,c3,c4,c5]).take (Tryd.prog.cellsOf 9)) = some y0:=(hf 0 _ rfl).trans hy0
  rw [show Tryd.prog.cellsOf 9 = 1 from by kernel_rfl] at f0
  have g0:=Light.part (P:=Tryd.prog) Tryd.underlying77 (i:=0) rfl hy0 hL
  obtain ⟨d0,t0⟩:=(JL Tryd.underlying9) H enc w base sp held n _ _ f0 g0
  obtain ⟨y1,hy1⟩ : ∃ y,xs[1]? = some y:=⟨xs[1]'(by rw [hxl]; simp),by simp⟩
  have f1:DataW.trod enc Tryd.prog w base sp held n 3 ((List.drop 1 [c0,c1,c2,c3,c4,c5]).take (Tryd.prog.cellsOf 3)) = some y1:=(hf 1 _ rfl).trans hy1
  rw [show Tryd.prog.cellsOf 3 = 1 from by kernel_rfl] at f1
  have g1:=Light.part (P:=Tryd.prog) Tryd.underlying77 (i:=1) rfl hy1 hL
  obtain ⟨d1,t1⟩:=(dM Tryd.underlying3) H enc w base sp held n _ _ f1 g1
  obtain ⟨y2,hy2⟩ : ∃ y,xs[2]? = some y:=⟨xs[2]'(by rw [hxl]; simp),by simp⟩
  have f2:DataW.trod enc Tryd.prog w base sp held n 3 ((List.drop 2 [c0,c1,c2,c3,c4,c5]).take (Tryd.prog.cellsOf 3)) = some y2:=(hf 2 _ rfl).trans hy2
  rw [show Tryd.prog.cellsOf 3 = 1 from by kernel_rfl] at f2
  have g2:=Light.part (P:=Tryd.prog) Tryd.underlying77 (i:=2) rfl hy2 hL
  obtain ⟨d2,t2⟩:=(dM Tryd.underlying3) H enc w base sp held n _ _ f2 g2
  obtain ⟨y3,hy3⟩ : ∃ y,xs[3]? = some y:=⟨xs[3]'(by rw [hxl]; simp),by simp⟩
  have f3:DataW.trod enc Tryd.prog w base sp held n 32 ((List.drop 3 [c0,c1,c2,c3,c4,c5]).take (Tryd.prog.cellsOf 32)) = some y3:=(hf 3 _ rfl).trans hy3
  rw [show Tryd.prog.cellsOf 32 = 1 from by kernel_rfl] at f3
  have g3:=Light.part (P:=Tryd.prog) Tryd.underlying77 (i:=3) rfl hy3 hL
  obtain ⟨d3,t3⟩:=(gX (k:=1) (bt:=8) Tryd.underlying32 (by kernel_rfl) (by kernel_rfl) (by omega) (dM Tryd.underlying3)) H enc w base sp held n _ _ f3 g3
  obtain ⟨y4,hy4⟩ : ∃ y,xs[4]? = some y:=⟨xs[4]'(by rw [hxl]; simp),by simp⟩
  have f4:DataW.trod enc Tryd.prog w base sp held n 32 ((List.drop 4 [c0,c1,c2,c3,c4,c5]).take (Tryd.prog.cellsOf 32)) = some y4:=(hf 4 _ rfl).trans hy4
  rw [show Tryd.prog.cellsOf 32 = 1 from by kernel_rfl] at f4
  have g4:=Light.part (P:=Tryd.prog) Tryd.underlying77 (i:=4) rfl hy4 hL
  obtain ⟨d4,t4⟩:=(gX (k:=1) (bt:=8) Tryd.underlying32 (by kernel_rfl) (by kernel_rfl) (by omega) (dM Tryd.underlying3)) H enc w base sp held n _ _ f4 g4
  obtain ⟨y5,hy5⟩ : ∃ y,xs[5]? = some y:=⟨xs[5]'(by rw [hxl]; simp),by simp⟩
  have f5:DataW.trod enc Tryd.prog w base sp held n 32 ((List.drop 5 [c0,c1,c2,c3,c4,c5]).take (Tryd.prog.cellsOf 32)) = some y5:=(hf 5 _ rfl).trans hy5
  rw [show Tryd.prog.cellsOf 32 = 1 from by kernel_rfl] at f5
  have g5:=Light.part (P:=Tryd.prog) Tryd.underlying77 (i:=5) rfl hy5 hL
  obtain ⟨d5,t5⟩:=(gX (k:=1) (bt:=8) Tryd.underlying32 (by kernel_rfl) (by kernel_rfl) (by omega) (dM Tryd.underlying3)) H enc w base sp held n _ _ f5 g5
  obtain ⟨e0,q0⟩:=t0
  obtain ⟨e1,q1⟩:=t1
  obtain ⟨e2,q2⟩:=t2
  obtain ⟨u3,e3,q3⟩:=t3
  obtain ⟨u4,e4,q4⟩:=t4
  obtain ⟨u5,e5,q5⟩:=t5
  simp at e0 e1 e2 e3 e4 e5
  exact ⟨⟨d0,d1,d2,d3,d4,d5⟩,u3,u4,u5,by simp [e0,e1,e2,e3,e4,e5],q0,q1,q2,q3,q4,q5⟩
def aZ.TV (w:World) (x:aZ) (cs:List Value):Prop :=
 cs = [.int .i64 x.Grade] ∧ (Lit.int .i64 x.Grade).wf = true
def aZ.wf (x:aZ):Prop:=PA x.Grade
theorem aZ.TV_wf (w:World) (x:aZ) (cs:List Value) (h:aZ.TV w x cs):aZ.wf x:=by
 obtain ⟨e,q0⟩:=h
 exact jU q0
theorem aZ.rds:Rds aZ.TV aZ.cells 1:=fun w x cs h=>by
 obtain ⟨e,q0⟩:=h
 subst e
 exact ⟨uT.cons (.int _ _) rfl (uT.nil _),rfl⟩
theorem YF:CI Tryd.prog 84 aZ.TV:=fun H enc w base sp held fuel cs x h hL=>by
 obtain ⟨xs,n,hfuel,hxx,hlen,hxl,hf⟩:=DataW.trod_struct Tryd.underlying84 h
 subst hxx
 have hl:cs.length = 1:=hlen.trans (by kernel_rfl)
 match cs,hl with
 | [c0],_ =>
  obtain ⟨y0,hy0⟩ : ∃ y,xs[0]? = some y:=⟨xs[0]'(by rw [hxl]; simp),by simp⟩
  have f0:DataW.trod enc Tryd.prog w base sp held n 3 ((List.drop 0 [c0]).take (Tryd.prog.cellsOf 3)) = some y0:=(hf 0 _ rfl).trans hy0
  rw [show Tryd.prog.cellsOf 3 = 1 from by kernel_rfl] at f0
  have g0:=Light.part (P:=Tryd.prog) Tryd.underlying84 (i:=0) rfl hy0 hL
  obtain ⟨d0,t0⟩:=(dM Tryd.underlying3) H enc w base sp held n _ _ f0 g0
  obtain ⟨e0,q0⟩:=t0
  simp at e0
  exact ⟨⟨d0⟩,by simp [e0],q0⟩
def bB.TV (w:World) (x:bB) (cs:List Value):Prop :=
 cs = [.string x.Name,.int .i64 x.City,.int .i64 x.Group] ∧ x.Name.size <= maxLen ∧ (Lit.int .i64 x.City).wf = true ∧ (Lit.int .i64 x.Group).wf = true
def bB.wf (x:bB):Prop:=Ws x.Name ∧ PA x.City ∧ PA x.Group
theorem bB.TV_wf (w:World) (x:bB) (cs:List Value) (h:bB.TV w x cs):bB.wf x:=by
 obtain ⟨e,q0,q1,q2⟩:=h
 exact ⟨aFg q0,jU q1,jU q2⟩
theorem bB.rds:Rds bB.TV bB.cells 3:=fun w x cs h=>by
 obtain ⟨e,q0,q1,q2⟩:=h
 subst e
 exact ⟨uT.cons (.str _ q0) rfl (uT.cons (.int _ _) rfl (uT.cons (.int _ _) rfl (uT.nil _))),rfl⟩
theorem aAN:CI Tryd.prog 87 bB.TV:=fun H enc w base sp held fuel cs x h hL=>by
 obtain ⟨xs,n,hfuel,hxx,hlen,hxl,hf⟩:=DataW.trod_struct Tryd.underlying87 h
 subst hxx
 have hl:cs.length = 3:=hlen.trans (by kernel_rfl)
 match cs,hl with
 | [c0,c1,c2],_ =>
  obtain ⟨y0,hy0⟩ : ∃ y,xs[0]? = some y:=⟨xs[0]'(by rw [hxl]; simp),by simp⟩
  have f0:DataW.trod enc Tryd.prog w base sp held n 9 ((List.drop 0 [c0,c1,c2]).take (Tryd.prog.cellsOf 9)) = some y0:=(hf 0 _ rfl).trans hy0
  rw [show Tryd.prog.cellsOf 9 = 1 from by kernel_rfl] at f0
  have g0:=Light.part (P:=Tryd.prog) Tryd.underlying87 (i:=0) rfl hy0 hL
  obtain ⟨d0,t0⟩:=(JL Tryd.underlying9) H enc w base sp held n _ _ f0 g0
  obtain ⟨y1,hy1⟩ : ∃ y,xs[1]? = some y:=⟨xs[1]'(by rw [hxl]; simp),by simp⟩
  have f1:DataW.trod enc Tryd.prog w base sp held n 3 ((List.drop 1 [c0,c1,c2]).take (Tryd.prog.cellsOf 3)) = some y1:=(hf 1 _ rfl).trans hy1
  rw [show Tryd.prog.cellsOf 3 = 1 from by kernel_rfl] at f1
  have g1:=Light.part (P:=Tryd.prog) Tryd.underlying87 (i:=1) rfl hy1 hL
  obtain ⟨d1,t1⟩:=(dM Tryd.underlying3) H enc w base sp held n _ _ f1 g1
  obtain ⟨y2,hy2⟩ : ∃ y,xs[2]? = some y:=⟨xs[2]'(by rw [hxl]; simp),by simp⟩
  have f2:DataW.trod enc Tryd.prog w base sp held n 3 ((List.drop 2 [c0,c1,c2]).take (Tryd.prog.cellsOf 3)) = some y2:=(hf 2 _ rfl).trans hy2
  rw [show Tryd.prog.cellsOf 3 = 1 from by kernel_rfl] at f2
  have g2:=Light.part (P:=Tryd.prog) Tryd.underlying87 (i:=2) rfl hy2 hL
  obtain ⟨d2,t2⟩:=(dM Tryd.underlying3) H enc w base sp held n _ _ f2 g2
  obtain ⟨e0,q0⟩:=t0
  obtain ⟨e1,q1⟩:=t1
  obtain ⟨e2,q2⟩:=t2
  simp at e0 e1 e2
  exact ⟨⟨d0,d1,d2⟩,by simp [e0,e1,e2],q0,q1,q2⟩
def aQ.TV (w:World) (x:aQ) (cs:List Value):Prop :=
 cs = [.int .i64 x.Ask,.int .i64 x.By,.bool x.Whole] ∧ (Lit.int .i64 x.Ask).wf = true ∧ (Lit.int .i64 x.By).wf = true
def aQ.wf (x:aQ):Prop:=PA x.Ask ∧ PA x.By
theorem aQ.TV_wf (w:World) (x:aQ) (cs:List Value) (h:aQ.TV w x cs):aQ.wf x:=by
 obtain ⟨e,q0,q1⟩:=h
 exact ⟨jU q0,jU q1⟩
theorem aQ.rds:Rds aQ.TV aQ.cells 3:=fun w x cs h=>by
 obtain ⟨e,q0,q1⟩:=h
 subst e
 exact ⟨uT.cons (.int _ _) rfl (uT.cons (.int _ _) rfl (uT.cons (.bool _) rfl (uT.nil _))),rfl⟩
theorem UZ:CI Tryd.prog 75 aQ.TV:=fun H enc w base sp held fuel cs x h hL=>by
 obtain ⟨xs,n,hfuel,hxx,hlen,hxl,hf⟩:=DataW.trod_struct Tryd.underlying75 h
 subst hxx
 have hl:cs.length = 3:=hlen.trans (by kernel_rfl)
 match cs,hl with
 | [c0,c1,c2],_ =>
  obtain ⟨y0,hy0⟩ : ∃ y,xs[0]? = some y:=⟨xs[0]'(by rw [hxl]; simp),by simp⟩
  have f0:DataW.trod enc Tryd.prog w base sp held n 3 ((List.drop 0 [c0,c1,c2]).take (Tryd.prog.cellsOf 3)) = some y0:=(hf 0 _ rfl).trans hy0
  rw [show Tryd.prog.cellsOf 3 = 1 from by kernel_rfl] at f0
  have g0:=Light.part (P:=Tryd.prog) Tryd.underlying75 (i:=0) rfl hy0 hL
  obtain ⟨d0,t0⟩:=(dM Tryd.underlying3) H enc w base sp held n _ _ f0 g0
  obtain ⟨y1,hy1⟩ : ∃ y,xs[1]? = some y:=⟨xs[1]'(by rw [hxl]; simp),by simp⟩
  have f1:DataW.trod enc Tryd.prog w base sp held n 3 ((List.drop 1 [c0,c1,c2]).take (Tryd.prog.cellsOf 3)) = some y1:=(hf 1 _ rfl).trans hy1
  rw [show Tryd.prog.cellsOf 3 = 1 from by kernel_rfl] at f1
  have g1:=Light.part (P:=Tryd.prog) Tryd.underlying75 (i:=1) rfl hy1 hL
  obtain ⟨d1,t1⟩:=(dM Tryd.underlying3) H enc w base sp held n _ _ f1 g1
  obtain ⟨y2,hy2⟩ : ∃ y,xs[2]? = some y:=⟨xs[2]'(by rw [hxl]; simp),by simp⟩
  have f2:DataW.trod enc Tryd.prog w base sp held n 4 ((List.drop 2 [c0,c1,c2]).take (Tryd.prog.cellsOf 4)) = some y2:=(hf 2 _ rfl).trans hy2
  rw [show Tryd.prog.cellsOf 4 = 1 from by kernel_rfl] at f2
  have g2:=Light.part (P:=Tryd.prog) Tryd.underlying75 (i:=2) rfl hy2 hL
  obtain ⟨d2,t2⟩:=(UO Tryd.underlying4) H enc w base sp held n _ _ f2 g2
  obtain ⟨e0,q0⟩:=t0
  obtain ⟨e1,q1⟩:=t1
  have e2:(_:List Value) = _:=t2
  simp at e0 e1 e2
  exact ⟨⟨d0,d1,d2⟩,by simp [e0,e1,e2],q0,q1⟩
def aF.TVn:Nat->World->aF->List Value->Prop
 | 0=>fun _ _ _=>False
 | n + 1=>fun w x cs=>∃ v:Value,cs = [.int .i64 x.Op,.int .i64 x.N,v] ∧ (Lit.int .i64 x.Op).wf = true ∧ (Lit.int .i64 x.N).wf = true ∧ Sq w (aF.TVn n) 3 40 v x.Args
def aF.TV (w:World) (x:aF) (cs:List Value):Prop:=∃ n,aF.TVn n w x cs
theorem aF.TV_body {w:World} {x:aF} {cs:List Value} (h:aF.TV w x cs):∃ v:Value,cs = [.int .i64 x.Op,.int .i64 x.N,v] ∧ (Lit.int .i64 x.Op).wf = true ∧ (Lit.int .i64 x.N).wf = true ∧ Sq w aF.TV 3 40 v x.Args:=by
 obtain ⟨n,h⟩:=h
 cases n with
 | zero=>exact h.elim
 | succ n =>
  obtain ⟨v,e,q0,q1,q⟩:=h
  exact ⟨v,e,q0,q1,q.mono fun y cs h=>⟨n,h⟩⟩
theorem aF.TVn_mono:∀ {m n:Nat},m <= n->∀ {w:World} {x:aF} {cs:List Value},aF.TVn m w x cs->aF.TVn n w x cs
 | 0,_,_,_,_,_,h=>h.elim
 | m + 1,0,hl,_,_,_,_=>(by omega)
 | m + 1,n + 1,hl,w,x,cs,h=>by
  obtain ⟨v,e,q0,q1,q⟩:=h
  exact ⟨v,e,q0,q1,q.mono fun y cs h=>aF.TVn_mono (by omega) h⟩
def aF.wf (x:aF):Prop:=PA x.Op ∧ PA x.N ∧ Wl (fun _=>True) x.Args
theorem aF.TV_wf (w:World) (x:aF) (cs:List Value) (h:aF.TV w x cs):aF.wf x:=by
 obtain ⟨v,e,q0,q1,q⟩:=aF.TV_body h
 exact ⟨jU q0,jU q1,q.wl (fun _ _ _ _=>trivial)⟩
theorem aF.rdsn:∀ n,Rds (aF.TVn n) aF.cells 3
 | 0,w,x,cs,h=>h.elim
 | n + 1,w,x,cs,h=>by
  obtain ⟨v,e,q0,q1,q⟩:=h
  subst e
  exact ⟨uT.cons (.int _ _) rfl (uT.cons (.int _ _) rfl (uT.cons (q.reads fun w x cs h=>by rw [aF.row_eq]; exact aF.rdsn n w x cs h) rfl (uT.nil _))),rfl⟩
theorem aF.rds:Rds aF.TV aF.cells 3:=fun w x cs ⟨n,h⟩=>aF.rdsn n w x cs h
theorem aF.rdsr:Rds aF.TV aF.row 3:=fun w x cs h=>by rw [aF.row_eq]; exact aF.rds w x cs h
theorem aBf:CI Tryd.prog 66 aF.TV:=fun H enc w base sp held fuel=>by
 have key:∀ (fuel:Nat) (cs:List Value) (x:DataW H × List MemPlace),DataW.trod enc Tryd.prog w base sp held fuel 66 cs = some x->Light Tryd.prog 66 x->∃ d,aF.TVn fuel w d cs:=by
  intro fuel
  induction fuel using Nat.strongRecOn with
  | _ fuel ih =>
  intro cs x h hL
  obtain ⟨xs,n,hfuel,hxx,hlen,hxl,hf⟩:=DataW.trod_struct Tryd.underlying66 h
  subst hxx
  have hl:cs.length = 3:=hlen.trans (by kernel_rfl)
  match cs,hl with
  | [c0,c1,c2],_ =>
   obtain ⟨y0,hy0⟩ : ∃ y,xs[0]? = some y:=⟨xs[0]'(by rw [hxl]; simp),by simp⟩
   have f0:DataW.trod enc Tryd.prog w base sp held n 3 ((List.drop 0 [c0,c1,c2]).take (Tryd.prog.cellsOf 3)) = some y0:=(hf 0 _ rfl).trans hy0
   rw [show Tryd.prog.cellsOf 3 = 1 from by kernel_rfl] at f0
   have g0:=Light.part (P:=Tryd.prog) Tryd.underlying66 (i:=0) rfl hy0 hL
   obtain ⟨d0,t0⟩:=(dM Tryd.underlying3) H enc w base sp held n _ _ f0 g0
   obtain ⟨y1,hy1⟩ : ∃ y,xs[1]? = some y:=⟨xs[1]'(by rw [hxl]; simp),by simp⟩
   have f1:DataW.trod enc Tryd.prog w base sp held n 3 ((List.drop 1 [c0,c1,c2]).take (Tryd.prog.cellsOf 3)) = some y1:=(hf 1 _ rfl).trans hy1
   rw [show Tryd.prog.cellsOf 3 = 1 from by kernel_rfl] at f1
   have g1:=Light.part (P:=Tryd.prog) Tryd.underlying66 (i:=1) rfl hy1 hL
   obtain ⟨d1,t1⟩:=(dM Tryd.underlying3) H enc w base sp held n _ _ f1 g1
   obtain ⟨y2,hy2⟩ : ∃ y,xs[2]? = some y:=⟨xs[2]'(by rw [hxl]; simp),by simp⟩
   have f2:DataW.trod enc Tryd.prog w base sp held n 64 ((List.drop 2 [c0,c1,c2]).take (Tryd.prog.cellsOf 64)) = some y2:=(hf 2 _ rfl).trans hy2
   rw [show Tryd.prog.cellsOf 64 = 1 from by kernel_rfl] at f2
   have g2:=Light.part (P:=Tryd.prog) Tryd.underlying66 (i:=2) rfl hy2 hL
   obtain ⟨d2,t2⟩:=I1 (k:=3) (bt:=40) (TV:=aF.TVn n) Tryd.underlying64 (by kernel_rfl) (by kernel_rfl) (by omega) (fun q hq cs x h hL=>by obtain ⟨g,hg⟩:=ih q (by omega) cs x h hL; exact ⟨g,aF.TVn_mono (by omega) hg⟩) f2 g2
   obtain ⟨e0,q0⟩:=t0
   obtain ⟨e1,q1⟩:=t1
   obtain ⟨u,e2,q2⟩:=t2
   simp at e0 e1 e2
   refine ⟨⟨d0,d1,d2⟩,?_⟩
   obtain ⟨f,rfl⟩ : ∃ f,fuel = f + 1:=⟨fuel - 1,by omega⟩
   exact ⟨u,by simp [e0,e1,e2],q0,q1,q2.mono fun y cs h=>aF.TVn_mono (by omega) h⟩
 exact fun cs x h hL=>by
  obtain ⟨d,hd⟩:=key fuel cs x h hL
  exact ⟨d,fuel,hd⟩
def aS.TV (w:World) (x:aS) (cs:List Value):Prop :=
 ∃ v0:Value,cs = [.int .i64 x.Ask,.int .i64 x.Term.Op,.int .i64 x.Term.N,v0] ∧ (Lit.int .i64 x.Ask).wf = true ∧ (Lit.int .i64 x.Term.Op).wf = true ∧ (Lit.int .i64 x.Term.N).wf = true ∧ Sq w aF.TV 3 40 v0 x.Term.Args
def aS.wf (x:aS):Prop:=PA x.Ask ∧ aF.wf x.Term
theorem aS.TV_wf (w:World) (x:aS) (cs:List Value) (h:aS.TV w x cs):aS.wf x:=by
 obtain ⟨v0,e,q0,q1,q2,q3⟩:=h
 exact ⟨jU q0,⟨jU q1,jU q2,q3.wl (fun _ _ _ _=>trivial)⟩⟩
theorem aS.rds:Rds aS.TV aS.cells 4:=fun w x cs h=>by
 obtain ⟨v0,e,q0,q1,q2,q3⟩:=h
 subst e
 exact ⟨uT.cons (.int _ _) rfl (uT.cons (.int _ _) rfl (uT.cons (.int _ _) rfl (uT.cons (q3.reads aF.rdsr) rfl (uT.nil _)))),rfl⟩
theorem ZB:CI Tryd.prog 96 aS.TV:=fun H enc w base sp held fuel cs x h hL=>by
 obtain ⟨xs,n,hfuel,hxx,hlen,hxl,hf⟩:=DataW.trod_struct Tryd.underlying96 h
 subst hxx
 have hl:cs.length = 4:=hlen.trans (by kernel_rfl)
 match cs,hl with
 | [c0,c1,c2,c3],_ =>
  obtain ⟨y0,hy0⟩ : ∃ y,xs[0]? = some y:=⟨xs[0]'(by rw [hxl]; simp),by simp⟩
  have f0:DataW.trod enc Tryd.prog w base sp held n 3 ((List.drop 0 [c0,c1,c2,c3]).take (Tryd.prog.cellsOf 3)) = some y0:=(hf 0 _ rfl).trans hy0
  rw [show Tryd.prog.cellsOf 3 = 1 from by kernel_rfl] at f0
  have g0:=Light.part (P:=Tryd.prog) Tryd.underlying96 (i:=0) rfl hy0 hL
  obtain ⟨d0,t0⟩:=(dM Tryd.underlying3) H enc w base sp held n _ _ f0 g0
  obtain ⟨y1,hy1⟩ : ∃ y,xs[1]? = some y:=⟨xs[1]'(by rw [hxl]; simp),by simp⟩
  have f1:DataW.trod enc Tryd.prog w base sp held n 66 ((List.drop 1 [c0,c1,c2,c3]).take (Tryd.prog.cellsOf 66)) = some y1:=(hf 1 _ rfl).trans hy1
  rw [show Tryd.prog.cellsOf 66 = 3 from by kernel_rfl] at f1
  have g1:=Light.part (P:=Tryd.prog) Tryd.underlying96 (i:=1) rfl hy1 hL
  obtain ⟨d1,t1⟩:=aBf H enc w base sp held n _ _ f1 g1
  obtain ⟨e0,q0⟩:=t0
  obtain ⟨u1_0,e1,q1_0,q1_1,q1_2⟩:=aF.TV_body t1
  simp at e0 e1
  exact ⟨⟨d0,d1⟩,u1_0,by simp [e0,e1],q0,q1_0,q1_1,q1_2⟩
def aJ.TV (w:World) (x:aJ) (cs:List Value):Prop :=
 ∃ v0 v1:Value,cs = [.string x.Name,.bool x.Accepts,v0,v1] ∧ x.Name.size <= maxLen ∧ Sq w aQ.TV 3 24 v0 x.Choices ∧ Sq w aS.TV 4 48 v1 x.Rules
def aJ.wf (x:aJ):Prop:=Ws x.Name ∧ Wl aQ.wf x.Choices ∧ Wl aS.wf x.Rules
theorem aJ.TV_wf (w:World) (x:aJ) (cs:List Value) (h:aJ.TV w x cs):aJ.wf x:=by
 obtain ⟨v0,v1,e,q0,q1,q2⟩:=h
 exact ⟨aFg q0,q1.wl aQ.TV_wf,q2.wl aS.TV_wf⟩
theorem aJ.rds:Rds aJ.TV aJ.cells 4:=fun w x cs h=>by
 obtain ⟨v0,v1,e,q0,q1,q2⟩:=h
 subst e
 exact ⟨uT.cons (.str _ q0) rfl (uT.cons (.bool _) rfl (uT.cons (q1.reads aQ.rds) rfl (uT.cons (q2.reads aS.rds) rfl (uT.nil _)))),rfl⟩
theorem YO:CI Tryd.prog 48 aJ.TV:=fun H enc w base sp held fuel cs x h hL=>by
 obtain ⟨xs,n,hfuel,hxx,hlen,hxl,hf⟩:=DataW.trod_struct Tryd.underlying48 h
 subst hxx
 have hl:cs.length = 4:=hlen.trans (by kernel_rfl)
 match cs,hl with
 | [c0,c1,c2,c3],_ =>
  obtain ⟨y0,hy0⟩ : ∃ y,xs[0]? = some y:=⟨xs[0]'(by rw [hxl]; simp),by simp⟩
  have f0:DataW.trod enc Tryd.prog w base sp held n 9 ((List.drop 0 [c0,c1,c2,c3]).take (Tryd.prog.cellsOf 9)) = some y0:=(hf 0 _ rfl).trans hy0
  rw [show Tryd.prog.cellsOf 9 = 1 from by kernel_rfl] at f0
  have g0:=Light.part (P:=Tryd.prog) Tryd.underlying48 (i:=0) rfl hy0 hL
  obtain ⟨d0,t0⟩:=(JL Tryd.underlying9) H enc w base sp held n _ _ f0 g0
  obtain ⟨y1,hy1⟩ : ∃ y,xs[1]? = some y:=⟨xs[1]'(by rw [hxl]; simp),by simp⟩
  have f1:DataW.trod enc Tryd.prog w base sp held n 4 ((List.drop 1 [c0,c1,c2,c3]).take (Tryd.prog.cellsOf 4)) = some y1:=(hf 1 _ rfl).trans hy1
  rw [show Tryd.prog.cellsOf 4 = 1 from by kernel_rfl] at f1
  have g1:=Light.part (P:=Tryd.prog) Tryd.underlying48 (i:=1) rfl hy1 hL
  obtain ⟨d1,t1⟩:=(UO Tryd.underlying4) H enc w base sp held n _ _ f1 g1
  obtain ⟨y2,hy2⟩ : ∃ y,xs[2]? = some y:=⟨xs[2]'(by rw [hxl]; simp),by simp⟩
  have f2:DataW.trod enc Tryd.prog w base sp held n 45 ((List.drop 2 [c0,c1,c2,c3]).take (Tryd.prog.cellsOf 45)) = some y2:=(hf 2 _ rfl).trans hy2
  rw [show Tryd.prog.cellsOf 45 = 1 from by kernel_rfl] at f2
  have g2:=Light.part (P:=Tryd.prog) Tryd.underlying48 (i:=2) rfl hy2 hL
  obtain ⟨d2,t2⟩:=(gX (k:=3) (bt:=24) Tryd.underlying45 (by kernel_rfl) (by kernel_rfl) (by omega) UZ) H enc w base sp held n _ _ f2 g2
  obtain ⟨y3,hy3⟩ : ∃ y,xs[3]? = some y:=⟨xs[3]'(by rw [hxl]; simp),by simp⟩
  have f3:DataW.trod enc Tryd.prog w base sp held n 46 ((List.drop 3 [c0,c1,c2,c3]).take (Tryd.prog.cellsOf 46)) = some y3:=(hf 3 _ rfl).trans hy3
  rw [show Tryd.prog.cellsOf 46 = 1 from by kernel_rfl] at f3
  have g3:=Light.part (P:=Tryd.prog) Tryd.underlying48 (i:=3) rfl hy3 hL
  obtain ⟨d3,t3⟩:=(gX (k:=4) (bt:=48) Tryd.underlying46 (by kernel_rfl) (by kernel_rfl) (by omega) ZB) H enc w base sp held n _ _ f3 g3
  obtain ⟨e0,q0⟩:=t0
  have e1:(_:List Value) = _:=t1
  obtain ⟨u2,e2,q2⟩:=t2
  obtain ⟨u3,e3,q3⟩:=t3
  simp at e0 e1 e2 e3
  exact ⟨⟨d0,d1,d2,d3⟩,u2,u3,by simp [e0,e1,e2,e3],q0,q2,q3⟩
def aR.TV (w:World) (x:aR) (cs:List Value):Prop :=
 cs = [.int .i64 x.From,.int .i64 x.To,.int .i64 x.Days] ∧ (Lit.int .i64 x.From).wf = true ∧ (Lit.int .i64 x.To).wf = true ∧ (Lit.int .i64 x.Days).wf = true
def aR.wf (x:aR):Prop:=PA x.From ∧ PA x.To ∧ PA x.Days
theorem aR.TV_wf (w:World) (x:aR) (cs:List Value) (h:aR.TV w x cs):aR.wf x:=by
 obtain ⟨e,q0,q1,q2⟩:=h
 exact ⟨jU q0,jU q1,jU q2⟩
theorem aR.rds:Rds aR.TV aR.cells 3:=fun w x cs h=>by
 obtain ⟨e,q0,q1,q2⟩:=h
 subst e
 exact ⟨uT.cons (.int _ _) rfl (uT.cons (.int _ _) rfl (uT.cons (.int _ _) rfl (uT.nil _))),rfl⟩
theorem U0:CI Tryd.prog 109 aR.TV:=fun H enc w base sp held fuel cs x h hL=>by
 obtain ⟨xs,n,hfuel,hxx,hlen,hxl,hf⟩:=DataW.trod_struct Tryd.underlying109 h
 subst hxx
 have hl:cs.length = 3:=hlen.trans (by kernel_rfl)
 match cs,hl with
 | [c0,c1,c2],_ =>
  obtain ⟨y0,hy0⟩ : ∃ y,xs[0]? = some y:=⟨xs[0]'(by rw [hxl]; simp),by simp⟩
  have f0:DataW.trod enc Tryd.prog w base sp held n 3 ((List.drop 0 [c0,c1,c2]).take (Tryd.prog.cellsOf 3)) = some y0:=(hf 0 _ rfl).trans hy0
  rw [show Tryd.prog.cellsOf 3 = 1 from by kernel_rfl] at f0
  have g0:=Light.part (P:=Tryd.prog) Tryd.underlying109 (i:=0) rfl hy0 hL
  obtain ⟨d0,t0⟩:=(dM Tryd.underlying3) H enc w base sp held n _ _ f0 g0
  obtain ⟨y1,hy1⟩ : ∃ y,xs[1]? = some y:=⟨xs[1]'(by rw [hxl]; simp),by simp⟩
  have f1:DataW.trod enc Tryd.prog w base sp held n 3 ((List.drop 1 [c0,c1,c2]).take (Tryd.prog.cellsOf 3)) = some y1:=(hf 1 _ rfl).trans hy1
  rw [show Tryd.prog.cellsOf 3 = 1 from by kernel_rfl] at f1
  have g1:=Light.part (P:=Tryd.prog) Tryd.underlying109 (i:=1) rfl hy1 hL
  obtain ⟨d1,t1⟩:=(dM Tryd.underlying3) H enc w base sp held n _ _ f1 g1
  obtain ⟨y2,hy2⟩ : ∃ y,xs[2]? = some y:=⟨xs[2]'(by rw [hxl]; simp),by simp⟩
  have f2:DataW.trod enc Tryd.prog w base sp held n 3 ((List.drop 2 [c0,c1,c2]).take (Tryd.prog.cellsOf 3)) = some y2:=(hf 2 _ rfl).trans hy2
  rw [show Tryd.prog.cellsOf 3 = 1 from by kernel_rfl] at f2
  have g2:=Light.part (P:=Tryd.prog) Tryd.underlying109 (i:=2) rfl hy2 hL
  obtain ⟨d2,t2⟩:=(dM Tryd.underlying3) H enc w base sp held n _ _ f2 g2
  obtain ⟨e0,q0⟩:=t0
  obtain ⟨e1,q1⟩:=t1
  obtain ⟨e2,q2⟩:=t2
  simp at e0 e1 e2
  exact ⟨⟨d0,d1,d2⟩,by simp [e0,e1,e2],q0,q1,q2⟩
def bA.TV (w:World) (x:bA) (cs:List Value):Prop :=
 cs = [.int .i64 x.From,.int .i64 x.To,.int .i64 x.Num,.int .i64 x.Den,.int .i64 x.Since] ∧ (Lit.int .i64 x.From).wf = true ∧ (Lit.int .i64 x.To).wf = true ∧ (Lit.int .i64 x.Num).wf = true ∧ (Lit.int .i64 x.Den).wf = true ∧ (Lit.int .i64 x.Since).wf = true
def bA.wf (x:bA):Prop:=PA x.From ∧ PA x.To ∧ PA x.Num ∧ PA x.Den ∧ PA x.Since
theorem bA.TV_wf (w:World) (x:bA) (cs:List Value) (h:bA.TV w x cs):bA.wf x:=by
 obtain ⟨e,q0,q1,q2,q3,q4⟩:=h
 exact ⟨jU q0,jU q1,jU q2,jU q3,jU q4⟩
theorem bA.rds:Rds bA.TV bA.cells 5:=fun w x cs h=>by
 obtain ⟨e,q0,q1,q2,q3,q4⟩:=h
 subst e
 exact ⟨uT.cons (.int _ _) rfl (uT.cons (.int _ _) rfl (uT.cons (.int _ _) rfl (uT.cons (.int _ _) rfl (uT.cons (.int _ _) rfl (uT.nil _))))),rfl⟩
theorem aAD:CI Tryd.prog 111 bA.TV:=fun H enc w base sp held fuel cs x h hL=>by
 obtain ⟨xs,n,hfuel,hxx,hlen,hxl,hf⟩:=DataW.trod_struct Tryd.underlying111 h
 subst hxx
 have hl:cs.length = 5:=hlen.trans (by kernel_rfl)
 match cs,hl with
 | [c0,c1,c2,c3,c4],_ =>
  obtain ⟨y0,hy0⟩ : ∃ y,xs[0]? = some y:=⟨xs[0]'(by rw [hxl]; simp),by simp⟩
  have f0:DataW.trod enc Tryd.prog w base sp held n 3 ((List.drop 0 [c0,c1,c2,c3,c4]).take (Tryd.prog.cellsOf 3)) = some y0:=(hf 0 _ rfl).trans hy0
  rw [show Tryd.prog.cellsOf 3 = 1 from by kernel_rfl] at f0
  have g0:=Light.part (P:=Tryd.prog) Tryd.underlying111 (i:=0) rfl hy0 hL
  obtain ⟨d0,t0⟩:=(dM Tryd.underlying3) H enc w base sp held n _ _ f0 g0
  obtain ⟨y1,hy1⟩ : ∃ y,xs[1]? = some y:=⟨xs[1]'(by rw [hxl]; simp),by simp⟩
  have f1:DataW.trod enc Tryd.prog w base sp held n 3 ((List.drop 1 [c0,c1,c2,c3,c4]).take (Tryd.prog.cellsOf 3)) = some y1:=(hf 1 _ rfl).trans hy1
  rw [show Tryd.prog.cellsOf 3 = 1 from by kernel_rfl] at f1
  have g1:=Light.part (P:=Tryd.prog) Tryd.underlying111 (i:=1) rfl hy1 hL
  obtain ⟨d1,t1⟩:=(dM Tryd.underlying3) H enc w base sp held n _ _ f1 g1
  obtain ⟨y2,hy2⟩ : ∃ y,xs[2]? = some y:=⟨xs[2]'(by rw [hxl]; simp),by simp⟩
  have f2:DataW.trod enc Tryd.prog w base sp held n 3 ((List.drop 2 [c0,c1,c2,c3,c4]).take (Tryd.prog.cellsOf 3)) = some y2:=(hf 2 _ rfl).trans hy2
  rw [show Tryd.prog.cellsOf 3 = 1 from by kernel_rfl] at f2
  have g2:=Light.part (P:=Tryd.prog) Tryd.underlying111 (i:=2) rfl hy2 hL
  obtain ⟨d2,t2⟩:=(dM Tryd.underlying3) H enc w base sp held n _ _ f2 g2
  obtain ⟨y3,hy3⟩ : ∃ y,xs[3]? = some y:=⟨xs[3]'(by rw [hxl]; simp),by simp⟩
  have f3:DataW.trod enc Tryd.prog w base sp held n 3 ((List.drop 3 [c0,c1,c2,c3,c4]).take (Tryd.prog.cellsOf 3)) = some y3:=(hf 3 _ rfl).trans hy3
  rw [show Tryd.prog.cellsOf 3 = 1 from by kernel_rfl] at f3
  have g3:=Light.part (P:=Tryd.prog) Tryd.underlying111 (i:=3) rfl hy3 hL
  obtain ⟨d3,t3⟩:=(dM Tryd.underlying3) H enc w base sp held n _ _ f3 g3
  obtain ⟨y4,hy4⟩ : ∃ y,xs[4]? = some y:=⟨xs[4]'(by rw [hxl]; simp),by simp⟩
  have f4:DataW.trod enc Tryd.prog w base sp held n 3 ((List.drop 4 [c0,c1,c2,c3,c4]).take (Tryd.prog.cellsOf 3)) = some y4:=(hf 4 _ rfl).trans hy4
  rw [show Tryd.prog.cellsOf 3 = 1 from by kernel_rfl] at f4
  have g4:=Light.part (P:=Tryd.prog) Tryd.underlying111 (i:=4) rfl hy4 hL
  obtain ⟨d4,t4⟩:=(dM Tryd.underlying3) H enc w base sp held n _ _ f4 g4
  obtain ⟨e0,q0⟩:=t0
  obtain ⟨e1,q1⟩:=t1
  obtain ⟨e2,q2⟩:=t2
  obtain ⟨e3,q3⟩:=t3
  obtain ⟨e4,q4⟩:=t4
  simp at e0 e1 e2 e3 e4
  exact ⟨⟨d0,d1,d2,d3,d4⟩,by simp [e0,e1,e2,e3,e4],q0,q1,q2,q3,q4⟩
def bD.TV (w:World) (x:bD) (cs:List Value):Prop :=
 cs = [.int .i64 x.Order,.int .i64 x.From,.int .i64 x.To] ∧ (Lit.int .i64 x.Order).wf = true ∧ (Lit.int .i64 x.From).wf = true ∧ (Lit.int .i64 x.To).wf = true
def bD.wf (x:bD):Prop:=PA x.Order ∧ PA x.From ∧ PA x.To
theorem bD.TV_wf (w:World) (x:bD) (cs:List Value) (h:bD.TV w x cs):bD.wf x:=by
 obtain ⟨e,q0,q1,q2⟩:=h
 exact ⟨jU q0,jU q1,jU q2⟩
theorem bD.rds:Rds bD.TV bD.cells 3:=fun w x cs h=>by
 obtain ⟨e,q0,q1,q2⟩:=h
 subst e
 exact ⟨uT.cons (.int _ _) rfl (uT.cons (.int _ _) rfl (uT.cons (.int _ _) rfl (uT.nil _))),rfl⟩
theorem aAs:CI Tryd.prog 113 bD.TV:=fun H enc w base sp held fuel cs x h hL=>by
 obtain ⟨xs,n,hfuel,hxx,hlen,hxl,hf⟩:=DataW.trod_struct Tryd.underlying113 h
 subst hxx
 have hl:cs.length = 3:=hlen.trans (by kernel_rfl)
 match cs,hl with
 | [c0,c1,c2],_ =>
  obtain ⟨y0,hy0⟩ : ∃ y,xs[0]? = some y:=⟨xs[0]'(by rw [hxl]; simp),by simp⟩
  have f0:DataW.trod enc Tryd.prog w base sp held n 3 ((List.drop 0 [c0,c1,c2]).take (Tryd.prog.cellsOf 3)) = some y0:=(hf 0 _ rfl).trans hy0
  rw [show Tryd.prog.cellsOf 3 = 1 from by kernel_rfl] at f0
  have g0:=Light.part (P:=Tryd.prog) Tryd.underlying113 (i:=0) rfl hy0 hL
  obtain ⟨d0,t0⟩:=(dM Tryd.underlying3) H enc w base sp held n _ _ f0 g0
  obtain ⟨y1,hy1⟩ : ∃ y,xs[1]? = some y:=⟨xs[1]'(by rw [hxl]; simp),by simp⟩
  have f1:DataW.trod enc Tryd.prog w base sp held n 3 ((List.drop 1 [c0,c1,c2]).take (Tryd.prog.cellsOf 3)) = some y1:=(hf 1 _ rfl).trans hy1
  rw [show Tryd.prog.cellsOf 3 = 1 from by kernel_rfl] at f1
  have g1:=Light.part (P:=Tryd.prog) Tryd.underlying113 (i:=1) rfl hy1 hL
  obtain ⟨d1,t1⟩:=(dM Tryd.underlying3) H enc w base sp held n _ _ f1 g1
  obtain ⟨y2,hy2⟩ : ∃ y,xs[2]? = some y:=⟨xs[2]'(by rw [hxl]; simp),by simp⟩
  have f2:DataW.trod enc Tryd.prog w base sp held n 3 ((List.drop 2 [c0,c1,c2]).take (Tryd.prog.cellsOf 3)) = some y2:=(hf 2 _ rfl).trans hy2
  rw [show Tryd.prog.cellsOf 3 = 1 from by kernel_rfl] at f2
  have g2:=Light.part (P:=Tryd.prog) Tryd.underlying113 (i:=2) rfl hy2 hL
  obtain ⟨d2,t2⟩:=(dM Tryd.underlying3) H enc w base sp held n _ _ f2 g2
  obtain ⟨e0,q0⟩:=t0
  obtain ⟨e1,q1⟩:=t1
  obtain ⟨e2,q2⟩:=t2
  simp at e0 e1 e2
  exact ⟨⟨d0,d1,d2⟩,by simp [e0,e1,e2],q0,q1,q2⟩
def aB.TV (w:World) (x:aB) (cs:List Value):Prop :=
 ∃ v0 v1 v2 v3 v4 v5 v6 v7:Value,cs = [v0,v1,v2,v3,v4,v5,v6,v7] ∧ Sq w aLb 1 16 v0 x.Currencies ∧ Sq w aX.TV 6 104 v1 x.Cities ∧ Sq w aZ.TV 1 8 v2 x.Groups ∧ Sq w bB.TV 3 32 v3 x.Firms ∧ Sq w aJ.TV 4 72 v4 x.Orders ∧ Sq w aR.TV 3 24 v5 x.Usances ∧ Sq w bA.TV 5 40 v6 x.Rates ∧ Sq w bD.TV 3 24 v7 x.Halts
def aB.wf (x:aB):Prop:=Wl Ws x.Currencies ∧ Wl aX.wf x.Cities ∧ Wl aZ.wf x.Groups ∧ Wl bB.wf x.Firms ∧ Wl aJ.wf x.Orders ∧ Wl aR.wf x.Usances ∧ Wl bA.wf x.Rates ∧ Wl bD.wf x.Halts
theorem aB.TV_wf (w:World) (x:aB) (cs:List Value) (h:aB.TV w x cs):aB.wf x:=by
 obtain ⟨v0,v1,v2,v3,v4,v5,v6,v7,e,q0,q1,q2,q3,q4,q5,q6,q7⟩:=h
 exact ⟨q0.wl (fun w x cs h=>aFg h.2),q1.wl aX.TV_wf,q2.wl aZ.TV_wf,q3.wl bB.TV_wf,q4.wl aJ.TV_wf,q5.wl aR.TV_wf,q6.wl bA.TV_wf,q7.wl bD.TV_wf⟩
theorem aB.rds:Rds aB.TV aB.cells 8:=fun w x cs h=>by
 obtain ⟨v0,v1,v2,v3,v4,v5,v6,v7,e,q0,q1,q2,q3,q4,q5,q6,q7⟩:=h
 subst e
 exact ⟨uT.cons (q0.reads aOa) rfl (uT.cons (q1.reads aX.rds) rfl (uT.cons (q2.reads aZ.rds) rfl (uT.cons (q3.reads bB.rds) rfl (uT.cons (q4.reads aJ.rds) rfl (uT.cons (q5.reads aR.rds) rfl (uT.cons (q6.reads bA.rds) rfl (uT.cons (q7.reads bD.rds) rfl (uT.nil _)))))))),rfl⟩
theorem YX:CI Tryd.prog 31 aB.TV:=fun H enc w base sp held fuel cs x h hL=>by
 obtain ⟨xs,n,hfuel,hxx,hlen,hxl,hf⟩:=DataW.trod_struct Tryd.underlying31 h
 subst hxx
 have hl:cs.length = 8:=hlen.trans (by kernel_rfl)
 match cs,hl with
 | [c0,c1,c2,c3,c4,c5,c6,c7],_ =>
  obtain ⟨y0,hy0⟩ : ∃ y,xs[0]? = some y:=⟨xs[0]'(by rw [hxl]; simp),by simp⟩
  have f0:DataW.trod enc Tryd.prog w base sp held n 22 ((List.drop 0 [c0,c1,c2,c3,c4,c5,c6,c7]).take (Tryd.prog.cellsOf 22)) = some y0:=(hf 0 _ rfl).trans hy0
  rw [show Tryd.prog.cellsOf 22 = 1 from by kernel_rfl] at f0
  have g0:=Light.part (P:=Tryd.prog) Tryd.underlying31 (i:=0) rfl hy0 hL
  obtain ⟨d0,t0⟩:=(gX (k:=1) (bt:=16) Tryd.underlying22 (by kernel_rfl) (by kernel_rfl) (by omega) (JL Tryd.underlying9)) H enc w base sp held n _ _ f0 g0
  obtain ⟨y1,hy1⟩ : ∃ y,xs[1]? = some y:=⟨xs[1]'(by rw [hxl]; simp),by simp⟩
  have f1:DataW.trod enc Tryd.prog w base sp held n 23 ((List.drop 1 [c0,c1,c2,c3,c4,c5,c6,c7]).take (Tryd.prog.cellsOf 23)) = some y1:=(hf 1 _ rfl).trans hy1
  rw [show Tryd.prog.cellsOf 23 = 1 from by kernel_rfl] at f1
  have g1:=Light.part (P:=Tryd.prog) Tryd.underlying31 (i:=1) rfl hy1 hL
  obtain ⟨d1,t1⟩:=(gX (k:=6) (bt:=104) Tryd.underlying23 (by kernel_rfl) (by kernel_rfl) (by omega) aAn) H enc w base sp held n _ _ f1 g1
  obtain ⟨y2,hy2⟩ : ∃ y,xs[2]? = some y:=⟨xs[2]'(by rw [hxl]; simp),by simp⟩
  have f2:DataW.trod enc Tryd.prog w base sp held n 24 ((List.drop 2 [c0,c1,c2,c3,c4,c5,c6,c7]).take (Tryd.prog.cellsOf 24)) = some y2:=(hf 2 _ rfl).trans hy2
  rw [show Tryd.prog.cellsOf 24 = 1 from by kernel_rfl] at f2
  have g2:=Light.part (P:=Tryd.prog) Tryd.underlying31 (i:=2) rfl hy2 hL
  obtain ⟨d2,t2⟩:=(gX (k:=1) (bt:=8) Tryd.underlying24 (by kernel_rfl) (by kernel_rfl) (by omega) YF) H enc w base sp held n _ _ f2 g2
  obtain ⟨y3,hy3⟩ : ∃ y,xs[3]? = some y:=⟨xs[3]'(by rw [hxl]; simp),by simp⟩
  have f3:DataW.trod enc Tryd.prog w base sp held n 25 ((List.drop 3 [c0,c1,c2,c3,c4,c5,c6,c7]).take (Tryd.prog.cellsOf 25)) = some y3:=(hf 3 _ rfl).trans hy3
  rw [show Tryd.prog.cellsOf 25 = 1 from by kernel_rfl] at f3
  have g3:=Light.part (P:=Tryd.prog) Tryd.underlying31 (i:=3) rfl hy3 hL
  obtain ⟨d3,t3⟩:=(gX (k:=3) (bt:=32) Tryd.underlying25 (by kernel_rfl) (by kernel_rfl) (by omega) aAN) H enc w base sp held n _ _ f3 g3
  obtain ⟨y4,hy4⟩ : ∃ y,xs[4]? = some y:=⟨xs[4]'(by rw [hxl]; simp),by simp⟩
  have f4:DataW.trod enc Tryd.prog w base sp held n 26 ((List.drop 4 [c0,c1,c2,c3,c4,c5,c6,c7]).take (Tryd.prog.cellsOf 26)) = some y4:=(hf 4 _ rfl).trans hy4
  rw [show Tryd.prog.cellsOf 26 = 1 from by kernel_rfl] at f4
  have g4:=Light.part (P:=Tryd.prog) Tryd.underlying31 (i:=4) rfl hy4 hL
  obtain ⟨d4,t4⟩:=(gX (k:=4) (bt:=72) Tryd.underlying26 (by kernel_rfl) (by kernel_rfl) (by omega) YO) H enc w base sp held n _ _ f4 g4
  obtain ⟨y5,hy5⟩ : ∃ y,xs[5]? = some y:=⟨xs[5]'(by rw [hxl]; simp),by simp⟩
  have f5:DataW.trod enc Tryd.prog w base sp held n 27 ((List.drop 5 [c0,c1,c2,c3,c4,c5,c6,c7]).take (Tryd.prog.cellsOf 27)) = some y5:=(hf 5 _ rfl).trans hy5
  rw [show Tryd.prog.cellsOf 27 = 1 from by kernel_rfl] at f5
  have g5:=Light.part (P:=Tryd.prog) Tryd.underlying31 (i:=5) rfl hy5 hL
  obtain ⟨d5,t5⟩:=(gX (k:=3) (bt:=24) Tryd.underlying27 (by kernel_rfl) (by kernel_rfl) (by omega) U0) H enc w base sp held n _ _ f5 g5
  obtain ⟨y6,hy6⟩ : ∃ y,xs[6]? = some y:=⟨xs[6]'(by rw [hxl]; simp),by simp⟩
  have f6:DataW.trod enc Tryd.prog w base sp held n 28 ((List.drop 6 [c0,c1,c2,c3,c4,c5,c6,c7]).take (Tryd.prog.cellsOf 28)) = some y6:=(hf 6 _ rfl).trans hy6
  rw [show Tryd.prog.cellsOf 28 = 1 from by kernel_rfl] at f6
  have g6:=Light.part (P:=Tryd.prog) Tryd.underlying31 (i:=6) rfl hy6 hL
  obtain ⟨d6,t6⟩:=(gX (k:=5) (bt:=40) Tryd.underlying28 (by kernel_rfl) (by kernel_rfl) (by omega) aAD) H enc w base sp held n _ _ f6 g6
  obtain ⟨y7,hy7⟩ : ∃ y,xs[7]? = some y:=⟨xs[7]'(by rw [hxl]; simp),by simp⟩
  have f7:DataW.trod enc Tryd.prog w base sp held n 29 ((List.drop 7 [c0,c1,c2,c3,c4,c5,c6,c7]).take (Tryd.prog.cellsOf 29)) = some y7:=(hf 7 _ rfl).trans hy7
  rw [show Tryd.prog.cellsOf 29 = 1 from by kernel_rfl] at f7
  have g7:=Light.part (P:=Tryd.prog) Tryd.underlying31 (i:=7) rfl hy7 hL
  obtain ⟨d7,t7⟩:=(gX (k:=3) (bt:=24) Tryd.underlying29 (by kernel_rfl) (by kernel_rfl) (by omega) aAs) H enc w base sp held n _ _ f7 g7
  obtain ⟨u0,e0,q0⟩:=t0
  obtain ⟨u1,e1,q1⟩:=t1
  obtain ⟨u2,e2,q2⟩:=t2
  obtain ⟨u3,e3,q3⟩:=t3
  obtain ⟨u4,e4,q4⟩:=t4
  obtain ⟨u5,e5,q5⟩:=t5
  obtain ⟨u6,e6,q6⟩:=t6
  obtain ⟨u7,e7,q7⟩:=t7
  simp at e0 e1 e2 e3 e4 e5 e6 e7
  exact ⟨⟨d0,d1,d2,d3,d4,d5,d6,d7⟩,u0,u1,u2,u3,u4,u5,u6,u7,by simp [e0,e1,e2,e3,e4,e5,e6,e7],q0,q1,q2,q3,q4,q5,q6,q7⟩
end Go.Proofs.YtoefdnkjcfoccaaDoor
