/- UndoTells: for all arguments, the law answers true, and its arguments read as they did. -/
import Derived.Test.YtmekbfccmnjdcaaRows
import Derived.SizedLaws
import Derived.Test.YtmekbfccmnjdcaaOk
import Derived.Test.YtmekbfccmnjdcaaTy
import Derived.Test.YtmekbfccmnjdcaaTop45t
import Derived.Test.YtmekbfccmnjdcaaLnk
set_option linter.unusedVariables false
namespace Go.Proofs.Ytmekbfccmnjdcaa
open Go.ChangeShapes Go.WideShapes Go.ChangeAt Go.RowKit Vm
namespace UndoTellsRow
theorem own:ownKnob Try.prog.godebug = none:=by kernel_rfl
theorem laidOut:laidOutB Try.prog = true:=by kernel_rfl
set_option maxRecDepth 100000 in
theorem lifted (os:Os) (started:os.Started) (H:Type) (enc:TypeId × Value→H) :
  ReturnsInHanded {} Try.checked os 3 .any (Rows.undoTellsSpec.pre6 enc Try.prog Try.f3 Rows.undoTellsRow.domain false) (Rows.undoTellsSpec.post enc Try.prog Try.f3 false true false false):=by
 refine returnsInHanded_of_change_sized (C:=Try.checked) own started (by kernel_rfl) Try.func3
  (ChangeSpec.witness6 (enc:=enc) (C:=Try.checked) false ⟨#[],#[.slice none 0 0,.slice none 0 0,.slice none 0 0,.int .i64 0,.bool false],[]⟩ 8 (by kernel_rfl) (by kernel_rfl) (by kernel_rfl) (by kernel_rfl)) ?_
 intro W base args ds gs before hval0 hW hcnd hwt _
 have hval:∀ (j:Nat) t v,Try.f3.params[j]? = some t→args[j]? = some v→Value.okWide Try.prog W .any base t v:=hval0
 have hW':=hW
 obtain ⟨p,q,hA0,hV,rfl,hfz,hnd⟩:=hW
 have hA:DataW.TrodAll enc Try.prog W 0 (fun _=>true) true Try.f3.params.toList args.toList ds p:=hA0
 rw [Try.params3] at hA hval
 obtain ⟨v0,vs0,d0,ds0,p0,q0,hargs,rfl,rfl,h0,r0⟩:=trodAll_cons hA
 obtain ⟨v1,vs1,d1,ds1,p1,q1,rfl,rfl,rfl,h1,r1⟩:=trodAll_cons r0
 obtain ⟨v2,vs2,d2,ds2,p2,q2,rfl,rfl,rfl,h2,r2⟩:=trodAll_cons r1
 obtain ⟨v3,vs3,d3,ds3,p3,q3,rfl,rfl,rfl,h3,r3⟩:=trodAll_cons r2
 obtain ⟨v4,vs4,d4,ds4,p4,q4,rfl,rfl,rfl,h4,r4⟩:=trodAll_cons r3
 obtain ⟨rfl,rfl,rfl⟩:=trodAll_nil r4
 obtain rfl:args = #[v0,v1,v2,v3,v4]:=by cases args; simp_all
 obtain ⟨rfl,rfl⟩:=trodVars_none hV
 have hlt:∀ n ∈ DataW.weightsEach Try.prog [22,23,24,3,4] [d0,d1,d2,d3,d4],n ≤ reachBytes:=by
  intro n hn
  have hw2:=hwt
  rw [Try.params3] at hw2
  exact of_decide_eq_true (List.all_eq_true.1 hw2 n hn)
 have lg0:=fun pl=>Light.of (P:=Try.prog) hlt (i:=0) rfl rfl pl
 have lg1:=fun pl=>Light.of (P:=Try.prog) hlt (i:=1) rfl rfl pl
 have lg2:=fun pl=>Light.of (P:=Try.prog) hlt (i:=2) rfl rfl pl
 have lg3:=fun pl=>Light.of (P:=Try.prog) hlt (i:=3) rfl rfl pl
 have lg4:=fun pl=>Light.of (P:=Try.prog) hlt (i:=4) rfl rfl pl
 have k0:=h0
 have lt0:∀ x ∈ p0,x.block < W.heap.size:=by obtain ⟨m,hm⟩:=k0; exact DataW.trod_lt m _ _ _ hm
 obtain ⟨sa0,sn0,sc0,rfl⟩:=okWide_slice Try.underlying22 (hval 0 22 v0 rfl rfl)
 obtain ⟨a0,w0⟩ : ∃ xs,Sq W GLean.TV 1 24 (.slice sa0 sn0 sc0) xs:=by
  obtain ⟨m,hm⟩:=h0
  obtain ⟨xs,v,hv,hs⟩:=(opens_slice (k:=1) (bt:=24) Try.underlying22 (by kernel_rfl) (by kernel_rfl) (by omega) opens_GLean) H enc W _ _ _ m _ _ hm (lg0 _)
  simp only [Value.cells,List.cons.injEq,and_true] at hv
  exact ⟨xs,by rw [hv]; exact hs⟩
 have k1:=h1
 have lt1:∀ x ∈ p1,x.block < W.heap.size:=by obtain ⟨m,hm⟩:=k1; exact DataW.trod_lt m _ _ _ hm
 obtain ⟨sa1,sn1,sc1,rfl⟩:=okWide_slice Try.underlying23 (hval 1 23 v1 rfl rfl)
 obtain ⟨a1,w1⟩ : ∃ xs,Sq W BoolTV 1 1 (.slice sa1 sn1 sc1) xs:=by
  obtain ⟨m,hm⟩:=h1
  obtain ⟨xs,v,hv,hs⟩:=(opens_slice (k:=1) (bt:=1) Try.underlying23 (by kernel_rfl) (by kernel_rfl) (by omega) (opens_bool Try.underlying4)) H enc W _ _ _ m _ _ hm (lg1 _)
  simp only [Value.cells,List.cons.injEq,and_true] at hv
  exact ⟨xs,by rw [hv]; exact hs⟩
 have k2:=h2
 have lt2:∀ x ∈ p2,x.block < W.heap.size:=by obtain ⟨m,hm⟩:=k2; exact DataW.trod_lt m _ _ _ hm
 obtain ⟨sa2,sn2,sc2,rfl⟩:=okWide_slice Try.underlying24 (hval 2 24 v2 rfl rfl)
 obtain ⟨a2,w2⟩ : ∃ xs,Sq W IntTV 1 8 (.slice sa2 sn2 sc2) xs:=by
  obtain ⟨m,hm⟩:=h2
  obtain ⟨xs,v,hv,hs⟩:=(opens_slice (k:=1) (bt:=8) Try.underlying24 (by kernel_rfl) (by kernel_rfl) (by omega) (opens_int Try.underlying3)) H enc W _ _ _ m _ _ hm (lg2 _)
  simp only [Value.cells,List.cons.injEq,and_true] at hv
  exact ⟨xs,by rw [hv]; exact hs⟩
 have k3:=h3
 have lt3:∀ x ∈ p3,x.block < W.heap.size:=by obtain ⟨m,hm⟩:=k3; exact DataW.trod_lt m _ _ _ hm
 obtain ⟨a3,rfl,rfl,rfl,w3⟩:=open_int Try.underlying3 (hval 3 3 v3 rfl rfl) h3
 have k4:=h4
 have lt4:∀ x ∈ p4,x.block < W.heap.size:=by obtain ⟨m,hm⟩:=k4; exact DataW.trod_lt m _ _ _ hm
 obtain ⟨a4,rfl,rfl,rfl⟩:=open_bool Try.underlying4 (hval 4 4 v4 rfl rfl) h4
 clear hA0 hval0
 have e:=top_tells45 a0 a1 a2 a3 a4 (w0.wl GLean.TV_wf) (w1.wl (fun _ _ _ _=>trivial)) (w2.wl (fun w x cs h=>wf_i64 h.2)) (wf_i64 w3)
 have c:=c_mallongelaw45_UndoTells a0 a1 a2 a3 a4
 rw [e] at c
 refine (law_walk (tt_sound c rfl) W [.slice sa0 sn0 sc0,.slice sa1 sn1 sc1,.slice sa2 sn2 sc2,.int .i64 a3,.bool a4] ⟨w0.reads GLean.rds,w1.reads rds_bool,w2.reads rds_int,.int _ _,.bool _,trivial⟩).mono fun e W' ⟨he,bel⟩=>?_
 subst he
 exact ⟨_,rfl,_,_,_,[],_,[],hW',trodAll_mk1 (shut_bool Try.underlying4 _),(trodAll_cons_mk (Below.trod laidOut (by kernel_rfl) (of_decide_eq_true (by kernel_rfl)) k0 bel lt0) (trodAll_cons_mk (Below.trod laidOut (by kernel_rfl) (of_decide_eq_true (by kernel_rfl)) k1 bel lt1) (trodAll_cons_mk (Below.trod laidOut (by kernel_rfl) (of_decide_eq_true (by kernel_rfl)) k2 bel lt2) (trodAll_cons_mk (Below.trod laidOut (by kernel_rfl) (of_decide_eq_true (by kernel_rfl)) k3 bel lt3) (trodAll_cons_mk (Below.trod laidOut (by kernel_rfl) (of_decide_eq_true (by kernel_rfl)) k4 bel lt4) trodAll_mk0))))),rfl,bel.frame _,fun h=>by cases h⟩
end UndoTellsRow
theorem undoTells_holds:Rows.UndoTellsSaid :=
 OpenClaim.holds_of_wide 3 Try.f3 rfl rfl rfl rfl rfl rfl rfl ⟨rfl,rfl,rfl,rfl,rfl⟩ rfl rfl rfl rfl rfl (by kernel_rfl) Try.func3 (by kernel_rfl)
  (of_decide_eq_true (by kernel_rfl)) (by unfold Func.isWrapper; first | (rw [if_pos (by decide +kernel)]; kernel_rfl) | (rw [if_neg (by decide +kernel)]; exact ⟨rfl,rfl⟩))
  (fun os started H enc _=>UndoTellsRow.lifted os started H enc)
#print axioms undoTells_holds
end Go.Proofs.Ytmekbfccmnjdcaa
