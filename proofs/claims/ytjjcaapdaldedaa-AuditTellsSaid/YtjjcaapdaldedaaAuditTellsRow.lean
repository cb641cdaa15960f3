/- AuditTells: for all arguments, the law answers true, and its arguments read as they did. -/
import Derived.Test.YtjjcaapdaldedaaRows
import Derived.SizedLaws
import Derived.Test.YtjjcaapdaldedaaOk
import Derived.Test.YtjjcaapdaldedaaTy
import Derived.Test.YtjjcaapdaldedaaTop20t
import Derived.Test.YtjjcaapdaldedaaLnk
set_option linter.unusedVariables false
namespace Go.Proofs.Ytjjcaapdaldedaa
open Go.ChangeShapes Go.WideShapes Go.ChangeAt Go.RowKit Vm
namespace AuditTellsRow
theorem own:ownKnob Try.prog.godebug = none:=by kernel_rfl
theorem aEC:laidOutB Try.prog = true:=by kernel_rfl
set_option maxRecDepth 100000 in
theorem lifted (os:Os) (started:os.Started) (H:Type) (enc:TypeId × Value->H) :
  ReturnsInHanded {} Try.checked os 3 .any (Rows.auditTellsSpec.pre6 enc Try.prog Try.f3 Rows.auditTellsRow.domain false) (Rows.auditTellsSpec.post enc Try.prog Try.f3 false true false false):=by
 refine returnsInHanded_of_change_sized (C:=Try.checked) own started (by kernel_rfl) Try.func3
  (ChangeSpec.witness6 (enc:=enc) (C:=Try.checked) false ⟨#[],#[.agg #[.slice none 0 0,.slice none 0 0,.slice none 0 0,.slice none 0 0,.slice none 0 0,.slice none 0 0,.slice none 0 0,.slice none 0 0],.agg #[.int .i64 0,.int .i64 0,.int .i64 0,.slice none 0 0,.slice none 0 0]],[]⟩ 8 (by kernel_rfl) (by kernel_rfl) (by kernel_rfl) (by kernel_rfl)) ?_
 intro W base args ds gs before hval0 hW hcnd hwt _
 have hval:∀ (j:Nat) t v,Try.f3.params[j]? = some t->args[j]? = some v->Value.okWide Try.prog W .any base t v:=hval0
 have hW':=hW
 obtain ⟨p,q,hA0,hV,rfl,hfz,hnd⟩:=hW
 have hA:DataW.TrodAll enc Try.prog W 0 (fun _=>true) true Try.f3.params.toList args.toList ds p:=hA0
 rw [Try.params3] at hA hval
 obtain ⟨v0,vs0,d0,ds0,p0,q0,hargs,rfl,rfl,h0,r0⟩:=trodAll_cons hA
 obtain ⟨v1,vs1,d1,ds1,p1,q1,rfl,rfl,rfl,h1,r1⟩:=trodAll_cons r0
 obtain ⟨rfl,rfl,rfl⟩:=trodAll_nil r1
 obtain rfl:args = #[v0,v1]:=by cases args; simp_all
 obtain ⟨rfl,rfl⟩:=trodVars_none hV
 have hlt:∀ n ∈ DataW.weightsEach Try.prog [31,34] [d0,d1],n <= reachBytes:=by
  intro n hn
  have hw2:=hwt
  rw [Try.params3] at hw2
  exact of_decide_eq_true (List.all_eq_true.1 hw2 n hn)
 have lg0:=fun pl=>Light.of (P:=Try.prog) hlt (i:=0) rfl rfl pl
 have lg1:=fun pl=>Light.of (P:=Try.prog) hlt (i:=1) rfl rfl pl
 have k0:=h0
 have lt0:∀ x ∈ p0,x.block < W.heap.size:=by obtain ⟨m,hm⟩:=k0; exact DataW.trod_lt m _ _ _ hm
 obtain ⟨cs0,rfl,_⟩:=okWide_struct Try.underlying31 (hval 0 31 v0 rfl rfl)
 obtain ⟨a0,w0⟩ : ∃ x,aA.TV W x cs0.toList:=by
  obtain ⟨m,hm⟩:=h0
  exact ZI H enc W _ _ _ m _ _ (by simpa [Value.cells] using hm) (lg0 _)
 have k1:=h1
 have lt1:∀ x ∈ p1,x.block < W.heap.size:=by obtain ⟨m,hm⟩:=k1; exact DataW.trod_lt m _ _ _ hm
 obtain ⟨cs1,rfl,_⟩:=okWide_struct Try.underlying34 (hval 1 34 v1 rfl rfl)
 obtain ⟨a1,w1⟩ : ∃ x,aB.TV W x cs1.toList:=by
  obtain ⟨m,hm⟩:=h1
  exact aA1 H enc W _ _ _ m _ _ (by simpa [Value.cells] using hm) (lg1 _)
 clear hA0 hval0
 have e:=aA2 a0 a1 (aA.TV_wf W _ _ w0) (aB.TV_wf W _ _ w1)
 have c:=D5 a0 a1
 rw [e] at c
 refine (aIs (aJ0 c rfl) W [.agg cs0,.agg cs1] ⟨t8.agg (aA.rds W _ _ w0).1,t8.agg (aB.rds W _ _ w1).1,trivial⟩).mono fun e W' ⟨he,bel⟩=>?_
 subst he
 exact ⟨_,rfl,_,_,_,[],_,[],hW',trodAll_mk1 (shut_bool Try.underlying4 _),(trodAll_cons_mk (Below.trod aEC (by kernel_rfl) (of_decide_eq_true (by kernel_rfl)) k0 bel lt0) (trodAll_cons_mk (Below.trod aEC (by kernel_rfl) (of_decide_eq_true (by kernel_rfl)) k1 bel lt1) trodAll_mk0)),rfl,bel.frame _,fun h=>by cases h⟩
end AuditTellsRow
theorem auditTells_holds:Rows.AuditTellsSaid :=
 OpenClaim.holds_of_wide 3 Try.f3 rfl rfl rfl rfl rfl rfl rfl ⟨rfl,rfl,rfl,rfl,rfl⟩ rfl rfl rfl rfl rfl (by kernel_rfl) Try.func3 (by kernel_rfl)
  (of_decide_eq_true (by kernel_rfl)) (by unfold Func.isWrapper; first | (rw [if_pos (by decide +kernel)]; kernel_rfl) | (rw [if_neg (by decide +kernel)]; exact ⟨rfl,rfl⟩))
  (fun os started H enc _=>AuditTellsRow.lifted os started H enc)
#print axioms auditTells_holds
end Go.Proofs.Ytjjcaapdaldedaa
