/- AuditShows: for all arguments, the law answers true, and its arguments read as they did. -/
import Derived.Test.YtjjcaapdaldedaaRows
import Derived.SizedLaws
import Derived.Test.YtjjcaapdaldedaaOk
import Derived.Test.YtjjcaapdaldedaaTy
import Derived.Test.YtjjcaapdaldedaaTop20s
import Derived.Test.YtjjcaapdaldedaaLnk
set_option linter.unusedVariables false
namespace Go.Proofs.Ytjjcaapdaldedaa
open Go.ChangeShapes Go.WideShapes Go.ChangeAt Go.RowKit Vm
namespace AuditShowsRow
theorem own:ownKnob Try.prog.godebug = none:=by kernel_rfl
theorem UQ:laidOutB Try.prog = true:=by kernel_rfl
set_option maxRecDepth 100000 in
theorem lifted (os:Os) (started:os.Started) (H:Type) (enc:TypeId × Value->H) :
  ReturnsInHanded {} Try.checked os 4 .any (Rows.auditShowsSpec.pre6 enc Try.prog Try.f4 Rows.auditShowsRow.domain false) (Rows.auditShowsSpec.post enc Try.prog Try.f4 false true false false):=by
 refine returnsInHanded_of_change_sized (C:=Try.checked) own started (by kernel_rfl) Try.func4
  (ChangeSpec.witness6 (enc:=enc) (C:=Try.checked) false ⟨#[],#[.agg #[.slice none 0 0,.slice none 0 0,.slice none 0 0,.slice none 0 0,.slice none 0 0,.slice none 0 0,.slice none 0 0,.slice none 0 0],.int .u8 0],[]⟩ 8 (by kernel_rfl) (by kernel_rfl) (by kernel_rfl) (by kernel_rfl)) ?_
 intro W base args ds gs before hval0 hW hcnd hwt _
 have hval:∀ (j:Nat) t v,Try.f4.params[j]? = some t->args[j]? = some v->Value.okWide Try.prog W .any base t v:=hval0
 have hW':=hW
 obtain ⟨p,q,hA0,hV,rfl,hfz,hnd⟩:=hW
 have hA:DataW.TrodAll enc Try.prog W 0 (fun _=>true) true Try.f4.params.toList args.toList ds p:=hA0
 rw [Try.params4] at hA hval
 obtain ⟨v0,vs0,d0,ds0,p0,q0,hargs,rfl,rfl,h0,r0⟩:=trodAll_cons hA
 obtain ⟨v1,vs1,d1,ds1,p1,q1,rfl,rfl,rfl,h1,r1⟩:=trodAll_cons r0
 obtain ⟨rfl,rfl,rfl⟩:=trodAll_nil r1
 obtain rfl:args = #[v0,v1]:=by cases args; simp_all
 obtain ⟨rfl,rfl⟩:=trodVars_none hV
 have hlt:∀ n ∈ DataW.weightsEach Try.prog [31,5] [d0,d1],n <= reachBytes:=by
  intro n hn
  have hw2:=hwt
  rw [Try.params4] at hw2
  exact of_decide_eq_true (List.all_eq_true.1 hw2 n hn)
 have lg0:=fun pl=>Light.of (P:=Try.prog) hlt (i:=0) rfl rfl pl
 have lg1:=fun pl=>Light.of (P:=Try.prog) hlt (i:=1) rfl rfl pl
 have k0:=h0
 have lt0:∀ x ∈ p0,x.block < W.heap.size:=by obtain ⟨m,hm⟩:=k0; exact DataW.trod_lt m _ _ _ hm
 obtain ⟨cs0,rfl,_⟩:=okWide_struct Try.underlying31 (hval 0 31 v0 rfl rfl)
 obtain ⟨a0,w0⟩ : ∃ x,aB.TV W x cs0.toList:=by
  obtain ⟨m,hm⟩:=h0
  exact NQ H enc W _ _ _ m _ _ (by simpa [Value.cells] using hm) (lg0 _)
 have k1:=h1
 have lt1:∀ x ∈ p1,x.block < W.heap.size:=by obtain ⟨m,hm⟩:=k1; exact DataW.trod_lt m _ _ _ hm
 obtain ⟨a1,rfl,rfl,rfl,w1⟩:=open_int Try.underlying5 (hval 1 5 v1 rfl rfl) h1
 clear hA0 hval0
 have e:=O4 a0 a1 (aB.TV_wf W _ _ w0) (aHm w1)
 have c:=wL a0 a1
 rw [e] at c
 refine (aAa (aB4 c rfl) W [.agg cs0,.int .u8 a1] ⟨qZ.agg (aB.rds W _ _ w0).1,.int _ _,trivial⟩).mono fun e W' ⟨he,bel⟩=>?_
 subst he
 exact ⟨_,rfl,_,_,_,[],_,[],hW',trodAll_mk1 (shut_bool Try.underlying4 _),(trodAll_cons_mk (Below.trod UQ (by kernel_rfl) (of_decide_eq_true (by kernel_rfl)) k0 bel lt0) (trodAll_cons_mk (Below.trod UQ (by kernel_rfl) (of_decide_eq_true (by kernel_rfl)) k1 bel lt1) trodAll_mk0)),rfl,bel.frame _,fun h=>by cases h⟩
end AuditShowsRow
theorem auditShows_holds:Rows.AuditShowsSaid :=
 OpenClaim.holds_of_wide 4 Try.f4 rfl rfl rfl rfl rfl rfl rfl ⟨rfl,rfl,rfl,rfl,rfl⟩ rfl rfl rfl rfl rfl (by kernel_rfl) Try.func4 (by kernel_rfl)
  (of_decide_eq_true (by kernel_rfl)) (by unfold Func.isWrapper; first | (rw [if_pos (by decide +kernel)]; kernel_rfl) | (rw [if_neg (by decide +kernel)]; exact ⟨rfl,rfl⟩))
  (fun os started H enc _=>AuditShowsRow.lifted os started H enc)
#print axioms auditShows_holds
end Go.Proofs.Ytjjcaapdaldedaa
