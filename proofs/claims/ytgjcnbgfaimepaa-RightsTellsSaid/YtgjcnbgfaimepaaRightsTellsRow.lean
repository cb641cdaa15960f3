/- RightsTells: for all arguments, the law answers true, and its arguments read as they did. -/
import Derived.Test.YtgjcnbgfaimepaaRows
import Derived.SizedLaws
import Derived.Test.YtgjcnbgfaimepaaOk
import Derived.Test.YtgjcnbgfaimepaaTy
import Derived.Test.YtgjcnbgfaimepaaTop43t
import Derived.Test.YtgjcnbgfaimepaaLnk
set_option linter.unusedVariables false
namespace Go.Proofs.Ytgjcnbgfaimepaa
open Go.ChangeShapes Go.WideShapes Go.ChangeAt Go.RowKit Vm
namespace RightsTellsRow
theorem own:ownKnob Try.prog.godebug = none:=by kernel_rfl
theorem TW:laidOutB Try.prog = true:=by kernel_rfl
set_option maxRecDepth 100000 in
theorem lifted (os:Os) (started:os.Started) (H:Type) (enc:TypeId × Value->H) :
  ReturnsInHanded {} Try.checked os 3 .any (Rows.rightsTellsSpec.pre6 enc Try.prog Try.f3 Rows.rightsTellsRow.domain false) (Rows.rightsTellsSpec.post enc Try.prog Try.f3 false true false false):=by
 refine returnsInHanded_of_change_sized (C:=Try.checked) own started (by kernel_rfl) Try.func3
  (ChangeSpec.witness6 (enc:=enc) (C:=Try.checked) false ⟨#[],#[.int .i64 0,.slice none 0 0,.slice none 0 0,.slice none 0 0,.int .i64 0],[]⟩ 8 (by kernel_rfl) (by kernel_rfl) (by kernel_rfl) (by kernel_rfl)) ?_
 intro W base args ds gs before hval0 hW hcnd hwt _
 have hval:∀ (j:Nat) t v,Try.f3.params[j]? = some t->args[j]? = some v->Value.okWide Try.prog W .any base t v:=hval0
 have hW':=hW
 obtain ⟨p,q,hA0,hV,rfl,hfz,hnd⟩:=hW
 have hA:DataW.TrodAll enc Try.prog W 0 (fun _=>true) true Try.f3.params.toList args.toList ds p:=hA0
 rw [Try.params3] at hA hval
 obtain ⟨v0,vs0,d0,ds0,p0,q0,hargs,rfl,rfl,h0,r0⟩:=trodAll_cons hA
 obtain ⟨v1,vs1,d1,ds1,p1,q1,rfl,rfl,rfl,h1,r1⟩:=trodAll_cons r0
 obtain ⟨v2,vs2,d2,ds2,p2,q2,rfl,rfl,rfl,h2,r2⟩:=trodAll_cons r1
 obtain ⟨v3,vs3,d3,ds3,p3,q3,rfl,rfl,rfl,h3,r3⟩:=trodAll_cons r2
 obtain ⟨v4,vs4,d4,ds4,p4,q4,rfl,rfl,rfl,h4,r4⟩:=trodAll_cons r3
 obtain ⟨rfl,rfl,rfl⟩:=trodAll_nil r4
 obtain rfl:args = #[v0,v1,v2,v3,v4]:=by cases args; simp_all
 obtain ⟨rfl,rfl⟩:=trodVars_none hV
 have hlt:∀ n ∈ DataW.weightsEach Try.prog [3,22,23,23,3] [d0,d1,d2,d3,d4],n <= reachBytes:=by
  intro n hn
  have hw2:=hwt
  rw [Try.params3] at hw2
  exact of_decide_eq_true (List.all_eq_true.1 hw2 n hn)
 have lg0:=fun pl=>Light.of (P:=Try.prog) hlt (i:=0) rfl rfl pl
 have lg1:=fun pl=>Light.of (P:=Try.prog) hlt (i:=1) rfl rfl pl
 have lg2:=fun pl=>Light.of (P:=Try.prog) hlt (i:=2) rfl rfl pl
 have lg3:=fun pl=>Light.of (P:=Try.prog) hlt (i:=3) rfl rfl pl
 have lg4:=fun pl=>Light.of (P:=Try.prog) hlt (i:=4) rfl rfl pl
 have k0:=h0
 have lt0:∀ x ∈ p0,x.block < W.heap.size:=by obtain ⟨m,hm⟩:=k0; exact DataW.trod_lt m _ _ _ hm
 obtain ⟨a0,rfl,rfl,rfl,w0⟩:=open_int Try.underlying3 (hval 0 3 v0 rfl rfl) h0
 have k1:=h1
 have lt1:∀ x ∈ p1,x.block < W.heap.size:=by obtain ⟨m,hm⟩:=k1; exact DataW.trod_lt m _ _ _ hm
 obtain ⟨sa1,sn1,sc1,rfl⟩:=okWide_slice Try.underlying22 (hval 1 22 v1 rfl rfl)
 obtain ⟨a1,w1⟩ : ∃ xs,Sq W aF.TV 7 72 (.slice sa1 sn1 sc1) xs:=by
  obtain ⟨m,hm⟩:=h1
  obtain ⟨xs,v,hv,hs⟩:=(HW (k:=7) (bt:=72) Try.underlying22 (by kernel_rfl) (by kernel_rfl) (by omega) aCn) H enc W _ _ _ m _ _ hm (lg1 _)
  simp only [Value.cells,List.cons.injEq,and_true] at hv
  exact ⟨xs,by rw [hv]; exact hs⟩
 have k2:=h2
 have lt2:∀ x ∈ p2,x.block < W.heap.size:=by obtain ⟨m,hm⟩:=k2; exact DataW.trod_lt m _ _ _ hm
 obtain ⟨sa2,sn2,sc2,rfl⟩:=okWide_slice Try.underlying23 (hval 2 23 v2 rfl rfl)
 obtain ⟨a2,w2⟩ : ∃ xs,Sq W aGT 1 8 (.slice sa2 sn2 sc2) xs:=by
  obtain ⟨m,hm⟩:=h2
  obtain ⟨xs,v,hv,hs⟩:=(HW (k:=1) (bt:=8) Try.underlying23 (by kernel_rfl) (by kernel_rfl) (by omega) (xI Try.underlying3)) H enc W _ _ _ m _ _ hm (lg2 _)
  simp only [Value.cells,List.cons.injEq,and_true] at hv
  exact ⟨xs,by rw [hv]; exact hs⟩
 have k3:=h3
 have lt3:∀ x ∈ p3,x.block < W.heap.size:=by obtain ⟨m,hm⟩:=k3; exact DataW.trod_lt m _ _ _ hm
 obtain ⟨sa3,sn3,sc3,rfl⟩:=okWide_slice Try.underlying23 (hval 3 23 v3 rfl rfl)
 obtain ⟨a3,w3⟩ : ∃ xs,Sq W aGT 1 8 (.slice sa3 sn3 sc3) xs:=by
  obtain ⟨m,hm⟩:=h3
  obtain ⟨xs,v,hv,hs⟩:=(HW (k:=1) (bt:=8) Try.underlying23 (by kernel_rfl) (by kernel_rfl) (by omega) (xI Try.underlying3)) H enc W _ _ _ m _ _ hm (lg3 _)
  simp only [Value.cells,List.cons.injEq,and_true] at hv
  exact ⟨xs,by rw [hv]; exact hs⟩
 have k4:=h4
 have HH:∀ x ∈ p4,x.block < W.heap.size:=by obtain ⟨m,hm⟩:=k4; exact DataW.trod_lt m _ _ _ hm
 obtain ⟨a4,rfl,rfl,rfl,w4⟩:=open_int Try.underlying3 (hval 4 3 v4 rfl rfl) h4
 clear hA0 hval0
 have e:=aCw a0 a1 a2 a3 a4 (FA w0) (w1.wl aF.TV_wf) (w1.fl aF.TV_fit) (w2.wl (fun w x cs h=>FA h.2)) (w2.fl (fun _ _ _ _=>trivial)) (w3.wl (fun w x cs h=>FA h.2)) (w3.fl (fun _ _ _ _=>trivial)) (FA w4)
 have c:=FM a0 a1 a2 a3 a4
 rw [e] at c
 refine (aME (aLc c rfl) W [.int .i64 a0,.slice sa1 sn1 sc1,.slice sa2 sn2 sc2,.slice sa3 sn3 sc3,.int .i64 a4] ⟨.int _ _,w1.reads aF.rds,w2.reads aGi,w3.reads aGi,.int _ _,trivial⟩).mono fun e W' ⟨he,bel⟩=>?_
 subst he
 exact ⟨_,rfl,_,_,_,[],_,[],hW',trodAll_mk1 (shut_bool Try.underlying4 _),(trodAll_cons_mk (Below.trod TW (by kernel_rfl) (of_decide_eq_true (by kernel_rfl)) k0 bel lt0) (trodAll_cons_mk (Below.trod TW (by kernel_rfl) (of_decide_eq_true (by kernel_rfl)) k1 bel lt1) (trodAll_cons_mk (Below.trod TW (by kernel_rfl) (of_decide_eq_true (by kernel_rfl)) k2 bel lt2) (trodAll_cons_mk (Below.trod TW (by kernel_rfl) (of_decide_eq_true (by kernel_rfl)) k3 bel lt3) (trodAll_cons_mk (Below.trod TW (by kernel_rfl) (of_decide_eq_true (by kernel_rfl)) k4 bel HH) trodAll_mk0))))),rfl,bel.frame _,fun h=>by cases h⟩
end RightsTellsRow
theorem rightsTells_holds:Rows.RightsTellsSaid :=
 OpenClaim.holds_of_wide 3 Try.f3 rfl rfl rfl rfl rfl rfl rfl ⟨rfl,rfl,rfl,rfl,rfl⟩ rfl rfl rfl rfl rfl (by kernel_rfl) Try.func3 (by kernel_rfl)
  (of_decide_eq_true (by kernel_rfl)) (by unfold Func.isWrapper; first | (rw [if_pos (by decide +kernel)]; kernel_rfl) | (rw [if_neg (by decide +kernel)]; exact ⟨rfl,rfl⟩))
  (fun os started H enc _=>RightsTellsRow.lifted os started H enc)
#print axioms rightsTells_holds
end Go.Proofs.Ytgjcnbgfaimepaa
