/- Layer 45 (undo): the laws without the reference. -/
import Derived.Test.YtmekbfccmnjdcaaPUndo3
set_option linter.unusedVariables false
set_option linter.unusedSimpArgs false
namespace Go.Proofs.Ytmekbfccmnjdcaa
open Go.RowKit Vm
theorem few_total (l:List GLean):∃ b,mallongeref45_Few l = some b:=by
 have hin:∀ i,i < l.length→(el l i).Supports.length ≤ 25→∃ x,mallongeref45_Few_l1 l (i:Int) 0 = some x:=fun i hi hs=>by
  unfold mallongeref45_Few_l1
  obtain ⟨x,h1,_⟩:=iter_spec (step:=fun w=>mallongeref45_Few_l1_s l (i:Int) w) (fun k:Nat=>(k:Int)) (el l i).Supports.length (fun _=>True) (fun _=>True)
   (fun k hk=>by
    unfold mallongeref45_Few_l1_s
    rw [at_el l i hi,Option.bind_some,if_pos (by simp; omega),Option.bind_some,at_el _ k hk,Option.bind_some,wrap_succ (by omega)]
    by_cases c:((el (el l i).Supports k).length:Int) > 25
    ·right; exact ⟨_,if_pos (decide_eq_true c),fun _=>trivial⟩
    ·left; exact ⟨if_neg (by simpa using c),trivial⟩)
   ⟨.inl (),by
    unfold mallongeref45_Few_l1_s
    rw [at_el l i hi,Option.bind_some,if_neg (by simp)],fun _=>trivial⟩
  exact ⟨x,h1⟩
 obtain ⟨x,h1,_⟩:=iter_spec (step:=fun w=>mallongeref45_Few_l2_s l w) (fun k:Nat=>(k:Int)) (min l.length 60) (fun _=>True) (fun _=>True)
  (fun k hk=>by
   have hkl:k < l.length:=by omega
   unfold mallongeref45_Few_l2_s
   rw [if_pos (by simp; omega),if_pos (by simp; omega),at_el l k hkl,Option.bind_some,wrap_succ (by omega)]
   by_cases c:((el l k).Supports.length:Int) > 25
   ·right; exact ⟨_,if_pos (decide_eq_true c),fun _=>trivial⟩
   ·rw [if_neg (by simpa using c)]
    obtain ⟨y,hy⟩:=hin k hkl (by omega)
    rw [hy,Option.bind_some]
    cases y with
    | inl _=>left; exact ⟨rfl,trivial⟩
    | inr _=>right; exact ⟨_,rfl,fun _=>trivial⟩)
  ⟨.inl (),by
   unfold mallongeref45_Few_l2_s
   by_cases c:l.length ≤ 60
   ·rw [Nat.min_eq_left c,if_neg (by simp)]
   ·rw [Nat.min_eq_right (by omega),if_pos (by simp; omega),if_neg (by decide)],fun _=>trivial⟩
 unfold mallongeref45_Few mallongeref45_Few_l2
 rw [show ((0:Nat):Int) = 0 from rfl] at h1
 rw [h1,Option.bind_some]
 cases x with
 | inr _=>exact ⟨_,rfl⟩
 | inl _ =>
  simp only [Sum.elim_inl]
  split
  ·exact ⟨_,rfl⟩
  ·split <;> exact ⟨_,rfl⟩
theorem all_eq (s:List Int) (m:List Bool) (hs:s.length ≤ 1000000) (hok:okM m.length s):mallongeref45_All s m = some (wholeF s (el m)):=by
 have h:=iter_all? (step:=fun w=>mallongeref45_All_l1_s s m w) (fun i:Nat=>(i:Int)) s.length (fun i=>el m (el s i).toNat) () (fun i hi=>by
  have hk:=hok _ (el_mem s i hi)
  unfold mallongeref45_All_l1_s
  rw [if_pos (by simp; omega),at_el s i hi,Option.bind_some,at_eq m _ hk.1 (by omega),Option.bind_some,wrap_succ (by omega)]
  cases el m (el s i).toNat <;> rfl) (by
  unfold mallongeref45_All_l1_s
  rw [if_neg (by simp)])
 rw [show ((0:Nat):Int) = 0 from rfl] at h
 unfold mallongeref45_All mallongeref45_All_l1
 rw [h,Option.bind_some,← wholeF_allN s (el m)]
 cases wholeF s (el m) <;> rfl
theorem some_eq (s:List Int) (m:List Bool) (hs:s.length ≤ 1000000) (hok:okM m.length s):mallongeref45_Some s m = some (s.any fun k=>el m k.toNat):=by
 have h:=iter_all? (step:=fun w=>mallongeref45_Some_l1_s s m w) (fun i:Nat=>(i:Int)) s.length (fun i=>!el m (el s i).toNat) () (fun i hi=>by
  have hk:=hok _ (el_mem s i hi)
  unfold mallongeref45_Some_l1_s
  rw [if_pos (by simp; omega),at_el s i hi,Option.bind_some,at_eq m _ hk.1 (by omega),Option.bind_some,wrap_succ (by omega)]
  cases el m (el s i).toNat <;> rfl) (by
  unfold mallongeref45_Some_l1_s
  rw [if_neg (by simp)])
 rw [show ((0:Nat):Int) = 0 from rfl] at h
 unfold mallongeref45_Some mallongeref45_Some_l1
 have e:allN (fun i=>!el m (el s i).toNat) s.length = !(s.any fun k=>el m k.toNat):=by
  rw [← wholeF_allN s (fun k=>!el m k)]
  unfold wholeF
  rw [Bool.eq_iff_iff,List.all_eq_true,Bool.not_eq_true',List.any_eq_false]
  exact ⟨fun q k hk=>by simpa using q k hk,fun q k hk=>by simpa using q k hk⟩
 rw [h,Option.bind_some,e]
 cases s.any fun k=>el m k.toNat <;> rfl
theorem refHeld_eq {l:List GLean} (h:rightL l) {i:Nat} (hi:i < l.length) (m:List Bool) (hm:m.length = l.length):mallongeref45_Held (el l i) m = some (heldF (el l i) (el m)):=by
 have hsup:=(h.2 i hi).1
 have hh:=iter_all? (step:=fun w=>mallongeref45_Held_l1_s (el l i) m w) (fun k:Nat=>(k:Int)) (el l i).Supports.length (fun k=>!wholeF (el (el l i).Supports k) (el m)) () (fun k hk=>by
  have hmem:=el_mem (el l i).Supports k hk
  have hr:=right_sup h hi hmem
  unfold mallongeref45_Held_l1_s
  rw [if_pos (by simp; omega),at_el _ k hk,Option.bind_some,all_eq _ _ (by have:=hr.1.2; omega) (fun z hz=>by have:=right_mem h hi hmem hz; omega),Option.bind_some,wrap_succ (by omega)]
  cases wholeF (el (el l i).Supports k) (el m) <;> rfl) (by
  unfold mallongeref45_Held_l1_s
  rw [if_neg (by simp)])
 rw [show ((0:Nat):Int) = 0 from rfl] at hh
 unfold mallongeref45_Held mallongeref45_Held_l1
 rw [hh,Option.bind_some]
 unfold heldF
 have e:allN (fun k=>!wholeF (el (el l i).Supports k) (el m)) (el l i).Supports.length = !((el l i).Supports.any fun s=>wholeF s (el m)):=by
  rw [Bool.eq_iff_iff,allN_iff,Bool.not_eq_true',List.any_eq_false]
  exact ⟨fun q s hs=>by obtain ⟨k,hk,rfl⟩:=mem_el hs; simpa using q k hk,fun q k hk=>by simpa using q _ (el_mem _ k hk)⟩
 rw [e]
 cases c:(el l i).Supports.any fun s=>wholeF s (el m) with
 | true=>simp
 | false =>
  show some (((el l i).Supports.length:Int) == 0) = _
  rw [Bool.or_false]
  congr 1
  cases (el l i).Supports with
  | nil=>rfl
  | cons a t=>simp; omega
def evenB (l:List GLean) (sk m:List Bool):Bool:=allN (fun i=>el m i == (!el sk i && heldF (el l i) (el m))) l.length
theorem even_eq {l:List GLean} (h:rightL l) (sk m:List Bool) (hl:sk.length = l.length) (hm:m.length = l.length):mallongelaw45_even l sk m = some (evenB l sk m):=by
 have hn:=h.1
 have hh:=iter_all? (step:=fun w=>mallongelaw45_even_l1_s l sk m w) (fun i:Nat=>(i:Int)) l.length (fun i=>el m i == (!el sk i && heldF (el l i) (el m))) () (fun i hi=>by
  unfold mallongelaw45_even_l1_s
  rw [if_pos (by simp; omega),at_el m i (by omega),Option.bind_some,at_el sk i (by omega),Option.bind_some,wrap_succ (by omega)]
  cases el sk i with
  | false =>
   rw [if_pos (by decide),at_el l i hi,Option.bind_some,refHeld_eq h hi m hm,Option.bind_some]
   cases el m i <;> cases heldF (el l i) (el m) <;> rfl
  | true =>
   rw [if_neg (by decide)]
   cases el m i <;> rfl) (by
  unfold mallongelaw45_even_l1_s
  rw [if_neg (by simp)])
 rw [show ((0:Nat):Int) = 0 from rfl] at hh
 unfold mallongelaw45_even mallongelaw45_even_l1
 rw [hh,Option.bind_some]
 unfold evenB
 cases allN (fun i=>el m i == (!el sk i && heldF (el l i) (el m))) l.length <;> rfl
theorem sameB_eq (a b:List Bool) (ha:a.length ≤ 1000000) (h:a = b):mallongeref12_SameBools a b = some true:=by
 subst h
 unfold mallongeref12_SameBools
 rw [if_neg (by simp)]
 have hh:=iter_all? (step:=fun w=>mallongeref12_SameBools_l1_s a a w) (fun i:Nat=>(i:Int)) a.length (fun _=>true) () (fun i hi=>by
  unfold mallongeref12_SameBools_l1_s
  rw [if_pos (by simp; omega),at_el a i hi,Option.bind_some,Option.bind_some,wrap_succ (by omega)]
  simp) (by
  unfold mallongeref12_SameBools_l1_s
  rw [if_neg (by simp)])
 rw [show ((0:Nat):Int) = 0 from rfl] at hh
 unfold mallongeref12_SameBools_l1
 rw [hh,Option.bind_some,if_pos (allN_iff.2 fun _ _=>rfl)]
 rfl
theorem sameI_eq (a b:List Int) (ha:a.length ≤ 1000000) (h:a = b):mallongeref06_SameInts a b = some true:=by
 subst h
 unfold mallongeref06_SameInts
 rw [if_neg (by simp)]
 have hh:=iter_all? (step:=fun w=>mallongeref06_SameInts_l1_s a a w) (fun i:Nat=>(i:Int)) a.length (fun _=>true) () (fun i hi=>by
  unfold mallongeref06_SameInts_l1_s
  rw [if_pos (by simp; omega),at_el a i hi,Option.bind_some,Option.bind_some,wrap_succ (by omega)]
  simp) (by
  unfold mallongeref06_SameInts_l1_s
  rw [if_neg (by simp)])
 rw [show ((0:Nat):Int) = 0 from rfl] at hh
 unfold mallongeref06_SameInts_l1
 rw [hh,Option.bind_some,if_pos (allN_iff.2 fun _ _=>rfl)]
 rfl
theorem refRising_eq (s:List Int) (n:Int) (hs:s.length ≤ 1000000):mallongeref45_Rising s n = some (decide (risingP s n)):=by
 have h:=iter_all? (step:=fun w=>mallongeref45_Rising_l1_s s n w) (fun i:Nat=>(i:Int)) s.length (riseB s n) () (fun i hi=>by
  unfold mallongeref45_Rising_l1_s
  rw [if_pos (by simp; omega),at_el s i hi,Option.bind_some,wrap_succ (by omega)]
  unfold riseB
  by_cases c1:el s i < 0
  ·rw [if_pos (decide_eq_true c1),if_neg (by simp; omega)]
  rw [if_neg (by simpa using c1),Option.bind_some]
  by_cases c2:el s i ≥ n
  ·rw [if_pos (decide_eq_true c2),if_neg (by simp; omega)]
  rw [if_neg (by simpa using c2)]
  by_cases c3:(i:Int) > 0
  ·rw [if_pos (decide_eq_true c3),Option.bind_some]
   have e:IntKind.wrap .i64 ((i:Int) - 1) = ((i - 1:Nat):Int):=by rw [wrap_id (by omega) (by omega)]; omega
   rw [e,at_el s (i - 1) (by omega),Option.bind_some]
   by_cases c4:el s i ≤ el s (i - 1)
   ·rw [if_pos (decide_eq_true c4),if_neg (by simp; omega)]
   ·rw [if_neg (by simpa using c4),if_pos (by simp; omega)]
  ·rw [if_neg (by simpa using c3),if_pos (by simp; omega)]) (by
  unfold mallongeref45_Rising_l1_s
  rw [if_neg (by simp)])
 unfold mallongeref45_Rising mallongeref45_Rising_l1
 rw [show ((0:Nat):Int) = 0 from rfl] at h
 rw [h,Option.bind_some,riseB_all]
 cases decide (risingP s n) <;> rfl
theorem Standing_ok {l:List GLean} {sk:List Bool} (h:rightL l) (hl:sk.length = l.length):mundo_Standing l sk = some (ints l.length (stand l sk)):=by rw [Standing_eq,if_pos ⟨h,hl⟩]
theorem even_stand {l:List GLean} (h:rightL l) (sk:List Bool):evenB l sk (ints l.length (stand l sk)) = true:=by
 unfold evenB
 rw [allN_iff]
 intro i hi
 rw [ints_el hi,stand_eq h sk hi]
 have:heldF (el l i) (el (ints l.length (stand l sk))) = heldF (el l i) (stand l sk):=heldF_congr fun s hs k hk=>ints_el (by have:=right_mem h hi hs hk; omega)
 rw [this]
 simp
theorem law45_unique (hs:mallongelaw45_sane = some true) (l:List GLean) (sk m:List Bool):mallongelaw45_UndoUnique l sk m = some true:=by
 unfold mallongelaw45_UndoUnique
 rw [hs,Option.bind_some]
 obtain ⟨b,hb⟩:=few_total l
 rw [hb,Option.bind_some]
 cases b with
 | false=>rfl
 | true =>
  rw [if_neg (by decide),rightU_eq,Option.bind_some]
  by_cases c1:rightL l
  case neg=>rw [decide_eq_false c1]; rfl
  rw [decide_eq_true c1,if_neg (by decide)]
  have hn:=c1.1
  by_cases c2:sk.length = l.length
  case neg=>rw [if_pos (by simp; omega)]
  rw [if_neg (by rw [c2]; simp),Standing_ok c1 c2,Option.bind_some,if_neg (by rw [ints_len]; simp),even_eq c1 _ _ c2 (ints_len _ _),Option.bind_some,even_stand c1,if_neg (by decide)]
  by_cases c3:m.length = l.length
  case neg=>rw [if_pos (by simp; omega)]
  rw [if_neg (by rw [c3]; simp),if_pos rfl,even_eq c1 _ _ c2 c3,Option.bind_some]
  cases c4:evenB l sk m with
  | false=>rfl
  | true =>
   rw [if_neg (by decide)]
   have hF:∀ i,i < l.length→el m i = stand l sk i:=stand_one c1 sk fun i hi=>by
    have:=allN_iff.1 c4 i hi
    simpa using this
   rw [sameB_eq _ _ (by rw [ints_len]; omega) (by
    apply List.ext_getElem (by rw [ints_len,c3])
    intro i h1 h2
    have:=hF i (by omega)
    rw [el_lt m i h2] at this
    rw [this,← el_lt _ i h1,ints_el (by rw [ints_len] at h1; exact h1)])]
   rfl
theorem why_proves {l:List GLean} {sk:List Bool} (h:rightL l) (hl:sk.length = l.length) {act:Nat} (ha:act < l.length) {why:List Int} (h1:stand l sk act = false→why = idL l.length fun i=>!stand l sk i) (h2:stand l sk act = true→∃ R,why = idL l.length R ∧ Reason l sk act R) :
  okP l sk (act:Int) why ∧ provesB l sk why (stand l sk act) = true ∧ why.length ≤ 300:=by
 have hn:=h.1
 have hmem:∀ (f:Nat→Bool) (i:Nat),i < l.length→memF (idL l.length f) i = f i:=fun f i hi=>by
  rw [Bool.eq_iff_iff,memF_iff,idL_mem]
  exact ⟨fun ⟨j,q1,q2,q3⟩=>(show i = j by omega) ▸ q2,fun q=>⟨i,hi,q,rfl⟩⟩
 cases c:stand l sk act with
 | false =>
  obtain rfl:=h1 c
  refine ⟨⟨⟨⟨h,hl⟩,idL_rising _ _⟩,idL_mem.2 ⟨act,ha,by rw [c]; rfl,rfl⟩⟩,?_,by have:=idL_len l.length fun i=>!stand l sk i; omega⟩
  unfold provesB
  rw [List.all_eq_true]
  intro k hk
  obtain ⟨i,hi,hf,rfl⟩:=idL_mem.1 hk
  rw [Int.toNat_natCast]
  unfold provesAt
  rw [if_neg (by decide)]
  have hst:stand l sk i = false:=by simpa using hf
  rw [stand_eq h sk hi] at hst
  have:heldF (el l i) (fun i=>!memF (idL l.length fun i=>!stand l sk i) i) = heldF (el l i) (stand l sk):=heldF_congr fun s hs k hk=>by
   have:=right_mem h hi hs hk
   rw [hmem _ _ (by omega),Bool.not_not]
  rw [this]
  cases q1:el sk i <;> cases q2:heldF (el l i) (stand l sk) <;> rw [q1,q2] at hst <;> first | rfl | cases hst
 | true =>
  obtain ⟨R,rfl,hR1,hR2⟩:=h2 c
  refine ⟨⟨⟨⟨h,hl⟩,idL_rising _ _⟩,idL_mem.2 ⟨act,ha,hR1,rfl⟩⟩,?_,by have:=idL_len l.length R; omega⟩
  unfold provesB
  rw [List.all_eq_true]
  intro k hk
  obtain ⟨i,hi,hf,rfl⟩:=idL_mem.1 hk
  rw [Int.toNat_natCast]
  unfold provesAt
  rw [if_pos rfl]
  obtain ⟨q1,q2⟩:=hR2 i hi hf
  rw [stand_eq h sk hi,Bool.and_eq_true] at q1
  have:heldF (el l i) (memF (idL l.length R)) = heldF (el l i) R:=heldF_congr fun s hs k hk=>by
   have:=right_mem h hi hs hk
   exact hmem _ _ (by omega)
  rw [q1.1,this,q2]
  rfl
theorem proves_not {l:List GLean} {sk:List Bool} {act:Nat} {list:List Int} (hlist:list.length ≤ 1000000):mundo_Proves l sk (act:Int) list (!stand l sk act) = some false:=by
 rw [Proves_eq _ _ _ _ _ hlist]
 cases c:decide (okP l sk (act:Int) list) && provesB l sk list (!stand l sk act) with
 | false=>rfl
 | true =>
  rw [Bool.and_eq_true] at c
  have:=proves_sound (of_decide_eq_true c.1) c.2
  rw [Int.toNat_natCast] at this
  cases q:stand l sk act <;> rw [q] at this <;> cases this
theorem law45_proves (hs:mallongelaw45_sane = some true) (l:List GLean) (sk:List Bool) (act:Int) (list:List Int):mallongelaw45_UndoProves l sk act list = some true:=by
 unfold mallongelaw45_UndoProves
 rw [hs,Option.bind_some]
 obtain ⟨b,hb⟩:=few_total l
 rw [hb,Option.bind_some]
 cases b with
 | false=>rfl
 | true =>
  rw [if_neg (by decide),rightU_eq,Option.bind_some]
  by_cases c1:rightL l
  case neg=>rw [decide_eq_false c1]; rfl
  rw [decide_eq_true c1,if_neg (by decide)]
  have hn:=c1.1
  by_cases c2:sk.length = l.length
  case neg=>rw [if_pos (by simp; omega)]
  rw [if_neg (by rw [c2]; simp)]
  by_cases c3:(list.length:Int) > 60
  case pos=>rw [if_pos (decide_eq_true c3)]
  rw [if_neg (by simpa using c3)]
  by_cases c4:act < 0
  case pos=>rw [if_pos (decide_eq_true c4)]
  rw [if_neg (by simpa using c4)]
  by_cases c5:act ≥ (l.length:Int)
  case pos=>rw [if_pos (decide_eq_true c5)]
  rw [if_neg (by simpa using c5)]
  obtain ⟨a,rfl⟩ : ∃ a:Nat,act = a:=⟨act.toNat,by omega⟩
  have ha:a < l.length:=by omega
  rw [Standing_ok c1 c2,Option.bind_some]
  obtain ⟨why,w1,w2,w3⟩:=Why_eq c1 c2 ha
  rw [w1,Option.bind_some,if_neg (by rw [ints_len]; simp)]
  obtain ⟨p1,p2,p3⟩:=why_proves c1 c2 ha w2 w3
  have q1:mundo_Proves l sk (a:Int) why (stand l sk a) = some true:=by rw [Proves_eq _ _ _ _ _ (by omega),decide_eq_true p1,p2]; rfl
  have q2:=proves_not (l:=l) (sk:=sk) (act:=a) (list:=why) (by omega)
  have q3:=proves_not (l:=l) (sk:=sk) (act:=a) (list:=list) (by omega)
  have q0:at? (ints l.length (stand l sk)) (a:Int) = some (stand l sk a):=by rw [at_el _ a (by rw [ints_len]; exact ha),ints_el ha]
  simp only [q0,q1,q2,q3,Option.bind_some,beq_self_eq_true,Bool.not_true,Bool.not_false,Bool.false_eq_true,if_false,if_true]
end Go.Proofs.Ytmekbfccmnjdcaa
