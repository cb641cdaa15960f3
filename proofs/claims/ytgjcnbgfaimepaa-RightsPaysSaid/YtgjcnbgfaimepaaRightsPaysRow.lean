/- RightsPays: for all arguments, the law answers true, and its arguments read as they did. -/
import Derived.Test.YtgjcnbgfaimepaaRows
import Derived.SizedLaws
import Derived.Test.YtgjcnbgfaimepaaOk
import Derived.Test.YtgjcnbgfaimepaaTy
import Derived.Test.YtgjcnbgfaimepaaTop43p
import Derived.Test.YtgjcnbgfaimepaaLnk
set_option linter.unusedVariables false
namespace Go.Proofs.Ytgjcnbgfaimepaa
open Go.ChangeShapes Go.WideShapes Go.ChangeAt Go.RowKit Vm
namespace RightsPaysRow
theorem own:ownKnob Try.prog.godebug = none:=by kernel_rfl
theorem PX:laidOutB Try.prog = true:=by kernel_rfl
set_option maxRecDepth 100000 in
theorem lifted (os:Os) (started:os.Started) (H:Type) (enc:TypeId × Value->H) :
  ReturnsInHanded {} Try.checked os 7 .any (Rows.rightsPaysSpec.pre6 enc Try.prog Try.f7 Rows.rightsPaysRow.domain false) (Rows.rightsPaysSpec.post enc Try.prog Try.f7 false true false false):=by
 refine returnsInHanded_of_change_sized (C:=Try.checked) own started (by kernel_rfl) Try.func7
  (ChangeSpec.witness6 (enc:=enc) (C:=Try.checked) false ⟨#[],#[.int .i64 0,.slice none 0 0,.slice none 0 0,.int .i64 0],[]⟩ 8 (by kernel_rfl) (by kernel_rfl) (by kernel_rfl) (by kernel_rfl)) ?_
 intro W base args ds gs before hval0 hW hcnd hwt _
 have hval:∀ (j:Nat) t v,Try.f7.params[j]? = some t->args[j]? = some v->Value.okWide Try.prog W .any base t v:=hval0
 have hW':=hW
 obtain ⟨p,q,hA0,hV,rfl,hfz,hnd⟩:=hW
 have hA:DataW.TrodAll enc Try.prog W 0 (fun _=>true) true Try.f7.params.toList args.toList ds p:=hA0
 rw [Try.params7] at hA hval
 obtain ⟨v0,vs0,d0,ds0,p0,q0,hargs,rfl,rfl,h0,r0⟩:=trodAll_cons hA
 obtain ⟨v1,vs1,d1,ds1,p1,q1,rfl,rfl,rfl,h1,r1⟩:=trodAll_cons r0
 obtain ⟨v2,vs2,d2,ds2,p2,q2,rfl,rfl,rfl,h2,r2⟩:=trodAll_cons r1
 obtain ⟨v3,vs3,d3,ds3,p3,q3,rfl,rfl,rfl,h3,r3⟩:=trodAll_cons r2
 obtain ⟨rfl,rfl,rfl⟩:=trodAll_nil r3
 obtain rfl:args = #[v0,v1,v2,v3]:=by cases args; simp_all
 obtain ⟨rfl,rfl⟩:=trodVars_none hV
 have hlt:∀ n ∈ DataW.weightsEach Try.prog [3,22,23,3] [d0,d1,d2,d3],n <= reachBytes:=by
  intro n hn
  have hw2:=hwt
  rw [Try.params7] at hw2
  exact of_decide_eq_true (List.all_eq_true.1 hw2 n hn)
 have lg0:=fun pl=>Light.of (P:=Try.prog) hlt (i:=0) rfl rfl pl
 have lg1:=fun pl=>Light.of (P:=Try.prog) hlt (i:=1) rfl rfl pl
 have lg2:=fun pl=>Light.of (P:=Try.prog) hlt (i:=2) rfl rfl pl
 have lg3:=fun pl=>Light.of (P:=Try.prog) hlt (i:=3) rfl rfl pl
 have k0:=h0
 have lt0:∀ x ∈ p0,x.block < W.heap.size:=by obtain ⟨m,hm⟩:=k0; exact DataW.trod_lt m _ _ _ hm
 obtain ⟨a0,rfl,rfl,rfl,w0⟩:=open_int Try.underlying3 (hval 0 3 v0 rfl rfl) h0
 have k1:=h1
 have lt1:∀ x ∈ p1,x.block < W.heap.size:=by obtain ⟨m,hm⟩:=k1; exact DataW.trod_lt m _ _ _ hm
 obtain ⟨sa1,sn1,sc1,rfl⟩:=okWide_slice Try.underlying22 (hval 1 22 v1 rfl rfl)
 obtain ⟨a1,w1⟩ : ∃ xs,Sq W aE.TV 7 72 (.slice sa1 sn1 sc1) xs:=by
  obtain ⟨m,hm⟩:=h1
  obtain ⟨xs,v,hv,hs⟩:=(HL (k:=7) (bt:=72) Try.underlying22 (by kernel_rfl) (by kernel_rfl) (by omega) XT) H enc W _ _ _ m _ _ hm (lg1 _)
  simp only [Value.cells,List.cons.injEq,and_true] at hv
  exact ⟨xs,by rw [hv]; exact hs⟩
 have k2:=h2
 have lt2:∀ x ∈ p2,x.block < W.heap.size:=by obtain ⟨m,hm⟩:=k2; exact DataW.trod_lt m _ _ _ hm
 obtain ⟨sa2,sn2,sc2,rfl⟩:=okWide_slice Try.underlying23 (hval 2 23 v2 rfl rfl)
 obtain ⟨a2,w2⟩ : ∃ xs,Sq W aKx 1 8 (.slice sa2 sn2 sc2) xs:=by
  obtain ⟨m,hm⟩:=h2
  obtain ⟨xs,v,hv,hs⟩:=(HL (k:=1) (bt:=8) Try.underlying23 (by kernel_rfl) (by kernel_rfl) (by omega) (sF Try.underlying3)) H enc W _ _ _ m _ _ hm (lg2 _)
  simp only [Value.cells,List.cons.injEq,and_true] at hv
  exact ⟨xs,by rw [hv]; exact hs⟩
 have k3:=h3
 have lt3:∀ x ∈ p3,x.block < W.heap.size:=by obtain ⟨m,hm⟩:=k3; exact DataW.trod_lt m _ _ _ hm
 obtain ⟨a3,rfl,rfl,rfl,w3⟩:=open_int Try.underlying3 (hval 3 3 v3 rfl rfl) h3
 clear hA0 hval0
 have e:=aDj a0 a1 a2 a3 (BT w0) (w1.wl aE.TV_wf) (w1.fl aE.TV_fit) (w2.wl (fun w x cs h=>BT h.2)) (w2.fl (fun _ _ _ _=>trivial)) (BT w3)
 have c:=A8 a0 a1 a2 a3
 rw [e] at c
 refine (aKE (aJB c rfl) W [.int .i64 a0,.slice sa1 sn1 sc1,.slice sa2 sn2 sc2,.int .i64 a3] ⟨.int _ _,w1.reads aE.rds,w2.reads aMi,.int _ _,trivial⟩).mono fun e W' ⟨he,bel⟩=>?_
 subst he
 exact ⟨_,rfl,_,_,_,[],_,[],hW',trodAll_mk1 (shut_bool Try.underlying4 _),(trodAll_cons_mk (Below.trod PX (by kernel_rfl) (of_decide_eq_true (by kernel_rfl)) k0 bel lt0) (trodAll_cons_mk (Below.trod PX (by kernel_rfl) (of_decide_eq_true (by kernel_rfl)) k1 bel lt1) (trodAll_cons_mk (Below.trod PX (by kernel_rfl) (of_decide_eq_true (by kernel_rfl)) k2 bel lt2) (trodAll_cons_mk (Below.trod PX (by kernel_rfl) (of_decide_eq_true (by kernel_rfl)) k3 bel lt3) trodAll_mk0)))),rfl,bel.frame _,fun h=>by cases h⟩
end RightsPaysRow
theorem rightsPays_holds:Rows.RightsPaysSaid :=
 OpenClaim.holds_of_wide 7 Try.f7 rfl rfl rfl rfl rfl rfl rfl ⟨rfl,rfl,rfl,rfl,rfl⟩ rfl rfl rfl rfl rfl (by kernel_rfl) Try.func7 (by kernel_rfl)
  (of_decide_eq_true (by kernel_rfl)) (by unfold Func.isWrapper; first | (rw [if_pos (by decide +kernel)]; kernel_rfl) | (rw [if_neg (by decide +kernel)]; exact ⟨rfl,rfl⟩))
  (fun os started H enc _=>RightsPaysRow.lifted os started H enc)
#print axioms rightsPays_holds
end Go.Proofs.Ytgjcnbgfaimepaa
