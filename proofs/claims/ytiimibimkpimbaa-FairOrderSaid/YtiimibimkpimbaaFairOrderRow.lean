/- FairOrder: for all arguments, the law answers true, and its arguments read as they did. -/
import Derived.Test.YtiimibimkpimbaaRows
import Derived.SizedLaws
import Derived.Test.YtiimibimkpimbaaOk
import Derived.Test.YtiimibimkpimbaaTy
import Derived.Test.YtiimibimkpimbaaTop44o
import Derived.Test.YtiimibimkpimbaaLnk
set_option linter.unusedVariables false
namespace Go.Proofs.Ytiimibimkpimbaa
open Go.ChangeShapes Go.WideShapes Go.ChangeAt Go.RowKit Vm
namespace FairOrderRow
theorem own:ownKnob Try.prog.godebug = none:=by kernel_rfl
theorem DO:laidOutB Try.prog = true:=by kernel_rfl
set_option maxRecDepth 100000 in
theorem lifted (os:Os) (started:os.Started) (H:Type) (enc:TypeId × Value→H) :
  ReturnsInHanded {} Try.checked os 3 .any (Rows.fairOrderSpec.pre6 enc Try.prog Try.f3 Rows.fairOrderRow.domain false) (Rows.fairOrderSpec.post enc Try.prog Try.f3 false true false false):=by
 refine returnsInHanded_of_change_sized (C:=Try.checked) own started (by kernel_rfl) Try.func3
  (ChangeSpec.witness6 (enc:=enc) (C:=Try.checked) false ⟨#[],#[.int .i64 0,.int .i64 0,.int .i64 0,.slice none 0 0,.slice none 0 0,.slice none 0 0],[]⟩ 8 (by kernel_rfl) (by kernel_rfl) (by kernel_rfl) (by kernel_rfl)) ?_
 intro W base args ds gs before hval0 hW hcnd hwt _
 have hval:∀ (j:Nat) t v,Try.f3.params[j]? = some t→args[j]? = some v→Value.okWide Try.prog W .any base t v:=hval0
 have hW':=hW
 obtain ⟨p,q,hA0,hV,rfl,hfz,hnd⟩:=hW
 have hA:DataW.TrodAll enc Try.prog W 0 (fun _=>true) true Try.f3.params.toList args.toList ds p:=hA0
 rw [Try.params3] at hA hval
 obtain ⟨v0,vs0,d0,ds0,p0,q0,hargs,rfl,rfl,h0,r0⟩:=trodAll_cons hA
 obtain ⟨v1,vs1,d1,ds1,p1,q1,rfl,rfl,rfl,h1,r1⟩:=trodAll_cons r0
 obtain ⟨v2,vs2,d2,ds2,p2,q2,rfl,rfl,rfl,h2,r2⟩:=trodAll_cons r1
 obtain ⟨v3,vs3,d3,ds3,p3,q3,rfl,rfl,rfl,h3,r3⟩:=trodAll_cons r2
 obtain ⟨v4,vs4,d4,ds4,p4,q4,rfl,rfl,rfl,h4,r4⟩:=trodAll_cons r3
 obtain ⟨v5,vs5,d5,ds5,p5,q5,rfl,rfl,rfl,h5,r5⟩:=trodAll_cons r4
 obtain ⟨rfl,rfl,rfl⟩:=trodAll_nil r5
 obtain rfl:args = #[v0,v1,v2,v3,v4,v5]:=by cases args; simp_all
 obtain ⟨rfl,rfl⟩:=trodVars_none hV
 have hlt:∀ n ∈ DataW.weightsEach Try.prog [3,3,3,22,23,23] [d0,d1,d2,d3,d4,d5],n ≤ reachBytes:=by
  intro n hn
  have hw2:=hwt
  rw [Try.params3] at hw2
  exact of_decide_eq_true (List.all_eq_true.1 hw2 n hn)
 have lg0:=fun pl=>Light.of (P:=Try.prog) hlt (i:=0) rfl rfl pl
 have lg1:=fun pl=>Light.of (P:=Try.prog) hlt (i:=1) rfl rfl pl
 have lg2:=fun pl=>Light.of (P:=Try.prog) hlt (i:=2) rfl rfl pl
 have lg3:=fun pl=>Light.of (P:=Try.prog) hlt (i:=3) rfl rfl pl
 have lg4:=fun pl=>Light.of (P:=Try.prog) hlt (i:=4) rfl rfl pl
 have lg5:=fun pl=>Light.of (P:=Try.prog) hlt (i:=5) rfl rfl pl
 have k0:=h0
 have lt0:∀ x ∈ p0,x.block < W.heap.size:=by obtain ⟨m,hm⟩:=k0; exact DataW.trod_lt m _ _ _ hm
 obtain ⟨a0,rfl,rfl,rfl,w0⟩:=open_int Try.underlying3 (hval 0 3 v0 rfl rfl) h0
 have k1:=h1
 have lt1:∀ x ∈ p1,x.block < W.heap.size:=by obtain ⟨m,hm⟩:=k1; exact DataW.trod_lt m _ _ _ hm
 obtain ⟨a1,rfl,rfl,rfl,w1⟩:=open_int Try.underlying3 (hval 1 3 v1 rfl rfl) h1
 have k2:=h2
 have lt2:∀ x ∈ p2,x.block < W.heap.size:=by obtain ⟨m,hm⟩:=k2; exact DataW.trod_lt m _ _ _ hm
 obtain ⟨a2,rfl,rfl,rfl,w2⟩:=open_int Try.underlying3 (hval 2 3 v2 rfl rfl) h2
 have k3:=h3
 have lt3:∀ x ∈ p3,x.block < W.heap.size:=by obtain ⟨m,hm⟩:=k3; exact DataW.trod_lt m _ _ _ hm
 obtain ⟨sa3,sn3,sc3,rfl⟩:=okWide_slice Try.underlying22 (hval 3 22 v3 rfl rfl)
 obtain ⟨a3,w3⟩ : ∃ xs,Sq W aA.TV 9 72 (.slice sa3 sn3 sc3) xs:=by
  obtain ⟨m,hm⟩:=h3
  obtain ⟨xs,v,hv,hs⟩:=(CN (k:=9) (bt:=72) Try.underlying22 (by kernel_rfl) (by kernel_rfl) (by omega) GQ) H enc W _ _ _ m _ _ hm (lg3 _)
  simp only [Value.cells,List.cons.injEq,and_true] at hv
  exact ⟨xs,by rw [hv]; exact hs⟩
 have k4:=h4
 have lt4:∀ x ∈ p4,x.block < W.heap.size:=by obtain ⟨m,hm⟩:=k4; exact DataW.trod_lt m _ _ _ hm
 obtain ⟨sa4,sn4,sc4,rfl⟩:=okWide_slice Try.underlying23 (hval 4 23 v4 rfl rfl)
 obtain ⟨a4,w4⟩ : ∃ xs,Sq W (KTV .u8) 1 1 (.slice sa4 sn4 sc4) xs:=by
  obtain ⟨m,hm⟩:=h4
  obtain ⟨xs,v,hv,hs⟩:=(CN (k:=1) (bt:=1) Try.underlying23 (by kernel_rfl) (by kernel_rfl) (by omega) (KP Try.underlying5)) H enc W _ _ _ m _ _ hm (lg4 _)
  simp only [Value.cells,List.cons.injEq,and_true] at hv
  exact ⟨xs,by rw [hv]; exact hs⟩
 have k5:=h5
 have lt5:∀ x ∈ p5,x.block < W.heap.size:=by obtain ⟨m,hm⟩:=k5; exact DataW.trod_lt m _ _ _ hm
 obtain ⟨sa5,sn5,sc5,rfl⟩:=okWide_slice Try.underlying23 (hval 5 23 v5 rfl rfl)
 obtain ⟨a5,w5⟩ : ∃ xs,Sq W (KTV .u8) 1 1 (.slice sa5 sn5 sc5) xs:=by
  obtain ⟨m,hm⟩:=h5
  obtain ⟨xs,v,hv,hs⟩:=(CN (k:=1) (bt:=1) Try.underlying23 (by kernel_rfl) (by kernel_rfl) (by omega) (KP Try.underlying5)) H enc W _ _ _ m _ _ hm (lg5 _)
  simp only [Value.cells,List.cons.injEq,and_true] at hv
  exact ⟨xs,by rw [hv]; exact hs⟩
 clear hA0 hval0
 have e:=SU a0 a1 a2 a3 a4 a5 (vF w0) (vF w1) (vF w2) (w3.wl aA.TV_wf) (w4.wl (fun w x cs h=>aIi h.2)) (w5.wl (fun w x cs h=>aIi h.2))
 have c:=w7 a0 a1 a2 a3 a4 a5
 rw [e] at c
 refine (aC0 (aB6 c rfl) W [.int .i64 a0,.int .i64 a1,.int .i64 a2,.slice sa3 sn3 sc3,.slice sa4 sn4 sc4,.slice sa5 sn5 sc5] ⟨.int _ _,.int _ _,.int _ _,w3.reads aA.rds,w4.reads (TG .u8),w5.reads (TG .u8),trivial⟩).mono fun e W' ⟨he,bel⟩=>?_
 subst he
 exact ⟨_,rfl,_,_,_,[],_,[],hW',trodAll_mk1 (shut_bool Try.underlying4 _),(trodAll_cons_mk (Below.trod DO (by kernel_rfl) (of_decide_eq_true (by kernel_rfl)) k0 bel lt0) (trodAll_cons_mk (Below.trod DO (by kernel_rfl) (of_decide_eq_true (by kernel_rfl)) k1 bel lt1) (trodAll_cons_mk (Below.trod DO (by kernel_rfl) (of_decide_eq_true (by kernel_rfl)) k2 bel lt2) (trodAll_cons_mk (Below.trod DO (by kernel_rfl) (of_decide_eq_true (by kernel_rfl)) k3 bel lt3) (trodAll_cons_mk (Below.trod DO (by kernel_rfl) (of_decide_eq_true (by kernel_rfl)) k4 bel lt4) (trodAll_cons_mk (Below.trod DO (by kernel_rfl) (of_decide_eq_true (by kernel_rfl)) k5 bel lt5) trodAll_mk0)))))),rfl,bel.frame _,fun h=>by cases h⟩
end FairOrderRow
theorem fairOrder_holds:Rows.FairOrderSaid :=
 OpenClaim.holds_of_wide 3 Try.f3 rfl rfl rfl rfl rfl rfl rfl ⟨rfl,rfl,rfl,rfl,rfl⟩ rfl rfl rfl rfl rfl (by kernel_rfl) Try.func3 (by kernel_rfl)
  (of_decide_eq_true (by kernel_rfl)) (by unfold Func.isWrapper; first | (rw [if_pos (by decide +kernel)]; kernel_rfl) | (rw [if_neg (by decide +kernel)]; exact ⟨rfl,rfl⟩))
  (fun os started H enc _=>FairOrderRow.lifted os started H enc)
#print axioms fairOrder_holds
end Go.Proofs.Ytiimibimkpimbaa
