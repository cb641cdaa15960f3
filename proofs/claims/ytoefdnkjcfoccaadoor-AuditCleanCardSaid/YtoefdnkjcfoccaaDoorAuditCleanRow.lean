/- AuditClean: for all arguments, the law answers true, and its arguments read as they did. -/
import Derived.Test.YtoefdnkjcfoccaaDoorRows
import Derived.Test.YtoefdnkjcfoccaaDoorCards
import Derived.Test.YtoefdnkjcfoccaaDoorTie
import Derived.Deep.DeepHandedRow
import Derived.Lib.LaidTab
import Derived.SevenTiedAt
import Derived.Test.YtoefdnkjcfoccaaDoorOk
import Derived.Test.YtoefdnkjcfoccaaDoorTy
import Derived.Test.YtoefdnkjcfoccaaDoorTop20c
import Derived.Test.YtoefdnkjcfoccaaDoorLnk
set_option linter.unusedVariables false
namespace Go.Proofs.YtoefdnkjcfoccaaDoor
open Go.ChangeShapes Go.WideShapes Go.ChangeAt Go.RowKit Vm
namespace AuditCleanRow
theorem own:ownKnob Tryd.prog.godebug = none:=by kernel_rfl
theorem SD:laidOutB Tryd.prog = true:=by kernel_rfl
theorem aT2:Tryd.prog.globalNamed "allonge/order.numbers" = some 0:=by kernel_rfl
theorem aLN:(Tryd.prog.globals[0]?).map (·.type) = some 104:=by kernel_rfl
theorem aS2:Tryd.prog.cellsOf 104 = 10:=by kernel_rfl
theorem aS5:Tryd.prog.cellsOf 3 = 1:=by kernel_rfl
theorem aJ9 {W:World} (h:laidMetH Tryd.prog Rows.auditCleanRow.laid W):Lib.TabIs Tryd.prog W "allonge/order.numbers" .i64 [6,7,10,12,13,14,15,16,20,21] :=
 Lib.tabIs_of_head (rest:=[]) aT2 aLN Tryd.underlying104 Tryd.underlying3 aS5 aS2 h
theorem globs {W:World} (h:laidMetH Tryd.prog Rows.auditCleanRow.laid W):IW (hw W):=by
 intro g row e
 unfold aJQ at e
 by_cases hg:g = 0
 ·subst hg
  rw [if_pos rfl] at e
  obtain rfl:([6,7,10,12,13,14,15,16,20,21]:List Int).map (D.int .i64) = row:=Option.some.inj e
  refine ⟨fun j=>.int .i64 (([6,7,10,12,13,14,15,16,20,21]:List Int).getD j 0),fun j x hx=>?_⟩
  rw [List.getElem?_map] at hx
  obtain ⟨z,hz,rfl⟩:=Option.map_eq_some_iff.1 hx
  have hj:j < ([6,7,10,12,13,14,15,16,20,21]:List Int).length:=(List.getElem?_eq_some_iff.1 hz).1
  have hc:=(aJ9 h).cell aT2 j hj
  have hv:([6,7,10,12,13,14,15,16,20,21]:List Int).getD j 0 = z:=by rw [List.getD_eq_getElem?_getD,hz]; rfl
  rw [hv] at hc
  simp only [hv]
  refine ⟨?_,.int _ _,rfl⟩
  unfold World.cell? at hc
  show Hp.cell (hw W) 0 j = _
  unfold Hp.cell
  have hh:hw W 0 = W.heap[0]?:=rfl
  rw [hh]
  cases ho:W.heap[0]? with
  | none=>simp [ho] at hc
  | some o=>cases o <;> simp_all
 ·rw [if_neg hg] at e; cases e
set_option maxRecDepth 100000 in
theorem ZD (H:Type) (enc:TypeId × Value->H) (W:World) (base:Nat) (args:Array Value) (ds gs:List (DataW H)) (before:List MemPlace)
  (hval0:∀ (j:Nat) t v,Tryd.f4.params[j]? = some t->args[j]? = some v->Value.okWide Tryd.prog W .any base t v)
  (hW:DataW.Whole enc Tryd.prog Tryd.f4.params.toList Rows.auditCleanSpec.vars false W args.toList ds gs before)
  (hwt:(DataW.weightsEach Tryd.prog (Tryd.f4.params.toList ++ Rows.auditCleanSpec.plain.varTypes Tryd.prog) (ds ++ gs)).all (· <= reachBytes) = true)
  (hL:laidMetH Tryd.prog Rows.auditCleanRow.laid W) :
  Calls Tryd.prog 4 args W fun e W'=>∃ v,e = .returned v ∧ Rows.auditCleanSpec.post enc Tryd.prog Tryd.f4 false true false false W args v W':=by
 have hval:∀ (j:Nat) t v,Tryd.f4.params[j]? = some t->args[j]? = some v->Value.okWide Tryd.prog W .any base t v:=hval0
 have hW':=hW
 obtain ⟨p,q,hA0,hV,rfl,hfz,hnd⟩:=hW
 have hA:DataW.TrodAll enc Tryd.prog W 0 (fun _=>true) true Tryd.f4.params.toList args.toList ds p:=hA0
 rw [Tryd.params4] at hA hval
 obtain ⟨v0,vs0,d0,ds0,p0,q0,hargs,rfl,rfl,h0,r0⟩:=trodAll_cons hA
 obtain ⟨v1,vs1,d1,ds1,p1,q1,rfl,rfl,rfl,h1,r1⟩:=trodAll_cons r0
 obtain ⟨v2,vs2,d2,ds2,p2,q2,rfl,rfl,rfl,h2,r2⟩:=trodAll_cons r1
 obtain ⟨v3,vs3,d3,ds3,p3,q3,rfl,rfl,rfl,h3,r3⟩:=trodAll_cons r2
 obtain ⟨rfl,rfl,rfl⟩:=trodAll_nil r3
 obtain rfl:args = #[v0,v1,v2,v3]:=by cases args; simp_all
 obtain ⟨rfl,rfl⟩:=trodVars_none hV
 have hlt:∀ n ∈ DataW.weightsEach Tryd.prog [31,3,3,32] [d0,d1,d2,d3],n <= reachBytes:=by
  intro n hn
  have hw2:=hwt
  rw [Tryd.params4] at hw2
  exact of_decide_eq_true (List.all_eq_true.1 hw2 n hn)
 have lg0:=fun pl=>Light.of (P:=Tryd.prog) hlt (i:=0) rfl rfl pl
 have lg1:=fun pl=>Light.of (P:=Tryd.prog) hlt (i:=1) rfl rfl pl
 have lg2:=fun pl=>Light.of (P:=Tryd.prog) hlt (i:=2) rfl rfl pl
 have lg3:=fun pl=>Light.of (P:=Tryd.prog) hlt (i:=3) rfl rfl pl
 have k0:=h0
 have lt0:∀ x ∈ p0,x.block < W.heap.size:=by obtain ⟨m,hm⟩:=k0; exact DataW.trod_lt m _ _ _ hm
 obtain ⟨cs0,rfl,_⟩:=okWide_struct Tryd.underlying31 (hval 0 31 v0 rfl rfl)
 obtain ⟨a0,w0⟩ : ∃ x,aB.TV W x cs0.toList:=by
  obtain ⟨m,hm⟩:=h0
  exact YX H enc W _ _ _ m _ _ (by simpa [Value.cells] using hm) (lg0 _)
 have k1:=h1
 have lt1:∀ x ∈ p1,x.block < W.heap.size:=by obtain ⟨m,hm⟩:=k1; exact DataW.trod_lt m _ _ _ hm
 obtain ⟨a1,rfl,rfl,rfl,w1⟩:=open_int Tryd.underlying3 (hval 1 3 v1 rfl rfl) h1
 have k2:=h2
 have lt2:∀ x ∈ p2,x.block < W.heap.size:=by obtain ⟨m,hm⟩:=k2; exact DataW.trod_lt m _ _ _ hm
 obtain ⟨a2,rfl,rfl,rfl,w2⟩:=open_int Tryd.underlying3 (hval 2 3 v2 rfl rfl) h2
 have k3:=h3
 have lt3:∀ x ∈ p3,x.block < W.heap.size:=by obtain ⟨m,hm⟩:=k3; exact DataW.trod_lt m _ _ _ hm
 obtain ⟨sa3,sn3,sc3,rfl⟩:=okWide_slice Tryd.underlying32 (hval 3 32 v3 rfl rfl)
 obtain ⟨a3,w3⟩ : ∃ xs,Sq W WS 1 8 (.slice sa3 sn3 sc3) xs:=by
  obtain ⟨m,hm⟩:=h3
  obtain ⟨xs,v,hv,hs⟩:=(gX (k:=1) (bt:=8) Tryd.underlying32 (by kernel_rfl) (by kernel_rfl) (by omega) (dM Tryd.underlying3)) H enc W _ _ _ m _ _ hm (lg3 _)
  simp only [Value.cells,List.cons.injEq,and_true] at hv
  exact ⟨xs,by rw [hv]; exact hs⟩
 clear hA0 hval0
 have e:=ZJ a0 a1 a2 a3 (aB.TV_wf W _ _ w0) (jU w1) (jU w2) (w3.wl (fun w x cs h=>jU h.2))
 have c:=DJ a0 a1 a2 a3
 rw [e] at c
 refine (aKq (aJy c rfl) W [.agg cs0,.int .i64 a1,.int .i64 a2,.slice sa3 sn3 sc3] ⟨uT.agg (aB.rds W _ _ w0).1,.int _ _,.int _ _,w3.reads SC,trivial⟩ (globs hL)).mono fun e W' ⟨he,bel⟩=>?_
 subst he
 exact ⟨_,rfl,_,_,_,[],_,[],hW',trodAll_mk1 (shut_bool Tryd.underlying4 _),(trodAll_cons_mk (Below.trod SD (by kernel_rfl) (of_decide_eq_true (by kernel_rfl)) k0 bel lt0) (trodAll_cons_mk (Below.trod SD (by kernel_rfl) (of_decide_eq_true (by kernel_rfl)) k1 bel lt1) (trodAll_cons_mk (Below.trod SD (by kernel_rfl) (of_decide_eq_true (by kernel_rfl)) k2 bel lt2) (trodAll_cons_mk (Below.trod SD (by kernel_rfl) (of_decide_eq_true (by kernel_rfl)) k3 bel lt3) trodAll_mk0)))),rfl,bel.frame _,fun h=>by cases h⟩
noncomputable def WV (os:Os):World :=
 { World.holding Tryd.prog os ⟨#[],#[],[]⟩ with heap:=(World.holding Tryd.prog os ⟨#[],#[],[]⟩).heap.modify 0 fun
   | .cells _ t frozen=>.cells #[.int .i64 6,.int .i64 7,.int .i64 10,.int .i64 12,.int .i64 13,.int .i64 14,.int .i64 15,.int .i64 16,.int .i64 20,.int .i64 21] t frozen
   | o=>o }
theorem aMB (os:Os):laidMet Tryd.prog Rows.auditCleanRow.laid ((WV os).forCall (fun _ _=>0) ⟨#[],#[.agg #[.slice none 0 0,.slice none 0 0,.slice none 0 0,.slice none 0 0,.slice none 0 0,.slice none 0 0,.slice none 0 0,.slice none 0 0],.int .i64 0,.int .i64 0,.slice none 0 0],[]⟩).memory :=
 laidMet_of_run' 8 (by kernel_rfl) (by kernel_rfl)
set_option maxRecDepth 100000 in
theorem lifted (os:Os) (started:os.Started) (H:Type) (enc:TypeId × Value->H) :
  ReturnsInHanded {} Tryd.checked os 4 .any (fun w args=>(Rows.auditCleanSpec.pre enc Tryd.prog Tryd.f4 [] false w args ∧ laidMetH Tryd.prog Rows.auditCleanRow.laid w) ∧ sizedMet enc Tryd.prog Tryd.f4 (OpenSpec.ofChange Rows.auditCleanSpec) false w args)
   (Rows.auditCleanSpec.post enc Tryd.prog Tryd.f4 false true false false):=by
 refine returnsInHanded_of_change_and (C:=Tryd.checked) (X:=fun w _=>laidMetH Tryd.prog Rows.auditCleanRow.laid w) (fun _ _ _ hh h=>h.of_heap hh) own started (by kernel_rfl) Tryd.func4
  (ChangeSpec.witness_shaped (enc:=enc) (C:=Tryd.checked) (os:=os) (X:=fun w _=>laidMetH Tryd.prog Rows.auditCleanRow.laid w) false (WV os) #[.agg #[.slice none 0 0,.slice none 0 0,.slice none 0 0,.slice none 0 0,.slice none 0 0,.slice none 0 0,.slice none 0 0,.slice none 0 0],.int .i64 0,.int .i64 0,.slice none 0 0] 8 rfl (World.shaped_of_RefB (by kernel_rfl) (by kernel_rfl)) (by kernel_rfl) (by kernel_rfl) (by kernel_rfl) (aMB os)) ?_
 intro W base args ds gs before hval hW _ hwt hL _
 exact ZD H enc W base args ds gs before hval hW hwt hL
end AuditCleanRow
theorem auditClean_holds:Rows.AuditCleanSaid :=
 OpenClaim.holds_of_wide 4 Tryd.f4 rfl rfl rfl rfl rfl rfl rfl ⟨rfl,rfl,rfl,rfl,rfl⟩ rfl rfl rfl rfl rfl (by kernel_rfl) Tryd.func4 (by kernel_rfl)
  (of_decide_eq_true (by kernel_rfl)) (by unfold Func.isWrapper; first | (rw [if_pos (by decide +kernel)]; kernel_rfl) | (rw [if_neg (by decide +kernel)]; exact ⟨rfl,rfl⟩))
  (fun os started H enc _=>AuditCleanRow.lifted os started H enc)
theorem auditClean_card:Rows.AuditCleanCardSaid :=
 Claim7.holds_tied_plain_at .later [] _ _ _ _ auditClean_holds (fun _ h=>by cases h) (by kernel_rfl) (fun _ h=>by cases h) auditClean_row_tie rfl ⟨rfl,rfl⟩ (by kernel_rfl) rfl
  (fun f fn hf hfn=>by
   obtain rfl:f = 4:=Option.some.inj ((show Tryd.prog.funcNamed "allonge/allongelaw20.AuditClean" = some 4 by kernel_rfl).symm.trans hf) |>.symm
   obtain rfl:fn = Tryd.f4:=(Option.some.inj (Tryd.func4.symm.trans hfn)).symm
   exact ⟨by kernel_rfl,fun j t ht=>by
    rw [Tryd.params4] at ht
    have hm:t ∈ [31,3,3,32]:=by simpa using Array.mem_of_getElem? ht
    have hall:([31,3,3,32].all fun u=>!Tryd.prog.wantsStandIn u) = true:=by kernel_rfl
    exact (show Tryd.prog.wantsStandIn t = false by simpa using List.all_eq_true.1 hall t hm)⟩)
  (by kernel_rfl)
#print axioms auditClean_card
end Go.Proofs.YtoefdnkjcfoccaaDoor
