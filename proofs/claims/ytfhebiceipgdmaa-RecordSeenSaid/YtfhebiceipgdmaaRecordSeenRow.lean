/- RecordSeen: for all arguments, the law answers true, and its arguments read as they did. -/
import Derived.Test.YtfhebiceipgdmaaRows
import Derived.SizedLaws
import Derived.Test.YtfhebiceipgdmaaOk
import Derived.Test.YtfhebiceipgdmaaTy
import Derived.Test.YtfhebiceipgdmaaTop14s
import Derived.Test.YtfhebiceipgdmaaLnk
set_option linter.unusedVariables false
namespace Go.Proofs.Ytfhebiceipgdmaa
open Go.ChangeShapes Go.WideShapes Go.ChangeAt Go.RowKit Vm
namespace RecordSeenRow
theorem own:ownKnob Try.prog.godebug = none:=by kernel_rfl
theorem xK:laidOutB Try.prog = true:=by kernel_rfl
set_option maxRecDepth 100000 in
theorem lifted (os:Os) (started:os.Started) (H:Type) (enc:TypeId × Value→H) :
  ReturnsInHanded {} Try.checked os 13 .any (Rows.recordSeenSpec.pre6 enc Try.prog Try.f13 Rows.recordSeenRow.domain false) (Rows.recordSeenSpec.post enc Try.prog Try.f13 false true false false):=by
 refine returnsInHanded_of_change_sized (C:=Try.checked) own started (by kernel_rfl) Try.func13
  (ChangeSpec.witness6 (enc:=enc) (C:=Try.checked) false ⟨#[],#[.agg #[.slice none 0 0,.slice none 0 0,.slice none 0 0,.slice none 0 0,.slice none 0 0,.slice none 0 0,.slice none 0 0,.slice none 0 0],.agg #[.int .i64 0,.int .i64 0,.int .i64 0,.int .i64 0,.int .i64 0,.int .i64 0,.int .i64 0,.int .i64 0,.int .i64 0,.int .i64 0,.int .i64 0,.int .i64 0,.int .i64 0,.int .i64 0,.int .i64 0,.slice none 0 0,.slice none 0 0,.slice none 0 0,.slice none 0 0],.int .i64 0],[]⟩ 8 (by kernel_rfl) (by kernel_rfl) (by kernel_rfl) (by kernel_rfl)) ?_
 intro W base args ds gs before hval0 hW hcnd hwt _
 have hval:∀ (j:Nat) t v,Try.f13.params[j]? = some t→args[j]? = some v→Value.okWide Try.prog W .any base t v:=hval0
 have hW':=hW
 obtain ⟨p,q,hA0,hV,rfl,hfz,hnd⟩:=hW
 have hA:DataW.TrodAll enc Try.prog W 0 (fun _=>true) true Try.f13.params.toList args.toList ds p:=hA0
 rw [Try.params13] at hA hval
 obtain ⟨v0,vs0,d0,ds0,p0,q0,hargs,rfl,rfl,h0,r0⟩:=trodAll_cons hA
 obtain ⟨v1,vs1,d1,ds1,p1,q1,rfl,rfl,rfl,h1,r1⟩:=trodAll_cons r0
 obtain ⟨v2,vs2,d2,ds2,p2,q2,rfl,rfl,rfl,h2,r2⟩:=trodAll_cons r1
 obtain ⟨rfl,rfl,rfl⟩:=trodAll_nil r2
 obtain rfl:args = #[v0,v1,v2]:=by cases args; simp_all
 obtain ⟨rfl,rfl⟩:=trodVars_none hV
 have hlt:∀ n ∈ DataW.weightsEach Try.prog [31,41,3] [d0,d1,d2],n ≤ reachBytes:=by
  intro n hn
  have hw2:=hwt
  rw [Try.params13] at hw2
  exact of_decide_eq_true (List.all_eq_true.1 hw2 n hn)
 have lg0:=fun pl=>b6.of (P:=Try.prog) hlt (i:=0) rfl rfl pl
 have lg1:=fun pl=>b6.of (P:=Try.prog) hlt (i:=1) rfl rfl pl
 have lg2:=fun pl=>b6.of (P:=Try.prog) hlt (i:=2) rfl rfl pl
 have k0:=h0
 have lt0:∀ x ∈ p0,x.block < W.heap.size:=by obtain ⟨m,hm⟩:=k0; exact DataW.trod_lt m _ _ _ hm
 obtain ⟨cs0,rfl,_⟩:=okWide_struct Try.underlying31 (hval 0 31 v0 rfl rfl)
 obtain ⟨a0,w0⟩ : ∃ x,aA.TV W x cs0.toList:=by
  obtain ⟨m,hm⟩:=h0
  exact FM H enc W _ _ _ m _ _ (by simpa [Value.cells] using hm) (lg0 _)
 have k1:=h1
 have lt1:∀ x ∈ p1,x.block < W.heap.size:=by obtain ⟨m,hm⟩:=k1; exact DataW.trod_lt m _ _ _ hm
 obtain ⟨cs1,rfl,_⟩:=okWide_struct Try.underlying41 (hval 1 41 v1 rfl rfl)
 obtain ⟨a1,w1⟩ : ∃ x,aB.TV W x cs1.toList:=by
  obtain ⟨m,hm⟩:=h1
  exact HQ H enc W _ _ _ m _ _ (by simpa [Value.cells] using hm) (lg1 _)
 have k2:=h2
 have lt2:∀ x ∈ p2,x.block < W.heap.size:=by obtain ⟨m,hm⟩:=k2; exact DataW.trod_lt m _ _ _ hm
 obtain ⟨a2,rfl,rfl,rfl,w2⟩:=open_int Try.underlying3 (hval 2 3 v2 rfl rfl) h2
 clear hA0 hval0
 have e:=VH a0 a1 a2 (aA.TV_wf W _ _ w0) (aB.TV_wf W _ _ w1) (wf_i64 w2)
 have c:=wN a0 a1 a2
 rw [e] at c
 refine (QR (O8 c rfl) W [.agg cs0,.agg cs1,.int .i64 a2] ⟨fP.agg (aA.rds W _ _ w0).1,fP.agg (aB.rds W _ _ w1).1,.int _ _,trivial⟩).mono fun e W' ⟨he,bel⟩=>?_
 subst he
 exact ⟨_,rfl,_,_,_,[],_,[],hW',trodAll_mk1 (shut_bool Try.underlying4 _),(trodAll_cons_mk (Below.trod xK (by kernel_rfl) (of_decide_eq_true (by kernel_rfl)) k0 bel lt0) (trodAll_cons_mk (Below.trod xK (by kernel_rfl) (of_decide_eq_true (by kernel_rfl)) k1 bel lt1) (trodAll_cons_mk (Below.trod xK (by kernel_rfl) (of_decide_eq_true (by kernel_rfl)) k2 bel lt2) trodAll_mk0))),rfl,bel.frame _,fun h=>by cases h⟩
end RecordSeenRow
theorem recordSeen_holds:Rows.RecordSeenSaid :=
 OpenClaim.holds_of_wide 13 Try.f13 rfl rfl rfl rfl rfl rfl rfl ⟨rfl,rfl,rfl,rfl,rfl⟩ rfl rfl rfl rfl rfl (by kernel_rfl) Try.func13 (by kernel_rfl)
  (of_decide_eq_true (by kernel_rfl)) (by unfold Func.isWrapper; first | (rw [if_pos (by decide +kernel)]; kernel_rfl) | (rw [if_neg (by decide +kernel)]; exact ⟨rfl,rfl⟩))
  (fun os started H enc _=>RecordSeenRow.lifted os started H enc)
#print axioms recordSeen_holds
end Go.Proofs.Ytfhebiceipgdmaa
