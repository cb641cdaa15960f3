/- Layer 45 (undo): what the functions of the package return. -/
import Derived.Test.YtmekbfccmnjdcaaPUndo1
set_option linter.unusedVariables false
set_option linter.unusedSimpArgs false
namespace Go.Proofs.Ytmekbfccmnjdcaa
open Go.RowKit Vm
theorem in64_small {n:Int} (h0:0 ≤ n) (h:n ≤ 1000000):in64 n:=by unfold in64; omega
theorem index_first {step:Int→Option (Int ⊕ (Unit ⊕ Int))} (n:Nat) (p:Nat→Bool) (h:∀ i:Nat,i < n→step (i:Int) = some (if p i = true then .inr (.inr (i:Int)) else .inl ((i + 1:Nat):Int))) (he:step (n:Int) = some (.inr (.inl ()))) :
  ∃ r:Int,((Iter step 0).bind fun (r:Unit ⊕ Int)=>Sum.elim (fun _=>some (-1)) (fun z=>some z) r) = some r ∧ decide (r ≥ 0) = !allN (fun i=>!p i) n:=by
 have h1:=iter_first (step:=step) (fun i:Nat=>(i:Int)) n (fun i=>if p i = true then some (i:Int) else none) () (fun i hi=>by rw [h i hi]; cases p i <;> rfl) he
 rw [show ((0:Nat):Int) = 0 from rfl] at h1
 rw [h1]
 cases hf:firstO (fun i=>if p i = true then some (i:Int) else none) 0 n with
 | none =>
  refine ⟨-1,rfl,?_⟩
  have:allN (fun i=>!p i) n = true:=allN_iff.2 fun i hi=>by
   have:=(firstO_none n 0).1 hf i (Nat.zero_le _) (by omega)
   cases q:p i with
   | false=>rfl
   | true=>rw [q,if_pos rfl] at this; cases this
  rw [this]; rfl
 | some x =>
  obtain ⟨i,_,hi,hx,_⟩:=firstO_some n 0 hf
  have hp:p i = true:=by
   cases q:p i with
   | true=>rfl
   | false=>rw [q,if_neg (by decide)] at hx; cases hx
  rw [hp,if_pos rfl] at hx
  cases hx
  refine ⟨(i:Int),rfl,?_⟩
  have:allN (fun i=>!p i) n = false:=by
   cases q:allN (fun i=>!p i) n with
   | false=>rfl
   | true=>have:=allN_iff.1 q i (by omega); rw [hp] at this; cases this
  rw [this]
  simp
def riseB (s:List Int) (n:Int) (i:Nat):Bool:=decide ((0 ≤ el s i ∧ el s i < n) ∧ (0 < i→el s (i - 1) < el s i))
theorem riseB_all (s:List Int) (n:Int):allN (riseB s n) s.length = decide (risingP s n):=by
 rw [Bool.eq_iff_iff,allN_iff,decide_eq_true_eq]
 exact ⟨fun h j hj=>of_decide_eq_true (h j hj),fun h j hj=>decide_eq_true (h j hj)⟩
theorem rising_eq (s:List Int) (n:Int) (hs:s.length ≤ 1000000):mundo_rising s n = some (decide (risingP s n)):=by
 have h:=iter_all? (step:=fun w=>mundo_rising_l1_s s n w) (fun i:Nat=>(i:Int)) s.length (riseB s n) () (fun i hi=>by
  unfold mundo_rising_l1_s
  rw [if_pos (by simp; omega),at_el s i hi,Option.bind_some,wrap_succ (by omega)]
  unfold riseB
  by_cases c1:el s i < 0
  ·rw [if_pos (decide_eq_true c1),if_neg (by simp; omega)]
  rw [if_neg (by simpa using c1)]
  by_cases c2:el s i ≥ n
  ·rw [if_pos (decide_eq_true c2),if_neg (by simp; omega)]
  rw [if_neg (by simpa using c2)]
  by_cases c3:(i:Int) > 0
  ·rw [if_pos (decide_eq_true c3)]
   have e:IntKind.wrap .i64 ((i:Int) - 1) = ((i - 1:Nat):Int):=by rw [wrap_id (by omega) (by omega)]; omega
   rw [e,at_el s (i - 1) (by omega),Option.bind_some]
   by_cases c4:el s i ≤ el s (i - 1)
   ·rw [if_pos (decide_eq_true c4),if_neg (by simp; omega)]
   ·rw [if_neg (by simpa using c4),if_pos (by simp; omega)]
  ·rw [if_neg (by simpa using c3),if_pos (by simp; omega)]) (by
  unfold mundo_rising_l1_s
  rw [if_neg (by simp)])
 unfold mundo_rising mundo_rising_l1
 rw [show ((0:Nat):Int) = 0 from rfl] at h
 rw [h,Option.bind_some,riseB_all]
 cases decide (risingP s n) <;> rfl
theorem rightU_eq (l:List GLean):mundo_Right l = some (decide (rightL l)):=by
 unfold mundo_Right
 by_cases c:(l.length:Int) > 300
 ·rw [if_pos (decide_eq_true c),decide_eq_false fun q=>by have:=q.1; omega]
 rw [if_neg (by simpa using c)]
 have hl:l.length ≤ 300:=by omega
 have h2:∀ (i:Nat) (x:GLean),x.Supports.length ≤ 20→mundo_Right_l1 l (i:Int) x 0 = some (if allN (fun j=>decide (rightS (el x.Supports j) i)) x.Supports.length = true then .inl () else .inr ()):=fun i x hx=>by
  have:=iter_all? (step:=fun w=>mundo_Right_l1_s l (i:Int) x w) (fun j:Nat=>(j:Int)) x.Supports.length (fun j=>decide (rightS (el x.Supports j) i)) () (fun j hj=>by
   unfold mundo_Right_l1_s
   rw [if_pos (by simp; omega),at_el _ j hj,Option.bind_some,wrap_succ (by omega)]
   by_cases c1:((el x.Supports j).length:Int) < 1
   ·rw [if_pos (decide_eq_true c1),if_neg (by simp only [decide_eq_true_eq]; intro q; have:=q.1; omega)]
   rw [if_neg (by simpa using c1)]
   by_cases c2:((el x.Supports j).length:Int) > 20
   ·rw [if_pos (decide_eq_true c2),if_neg (by simp only [decide_eq_true_eq]; intro q; have:=q.1; omega)]
   rw [if_neg (by simpa using c2),rising_eq _ _ (by omega),Option.bind_some]
   by_cases c3:risingP (el x.Supports j) (i:Int)
   ·rw [decide_eq_true c3,if_neg (by decide),if_pos (decide_eq_true ⟨⟨by omega,by omega⟩,c3⟩)]
   ·rw [decide_eq_false c3,if_pos (by decide),if_neg (by simp only [decide_eq_true_eq]; intro q; exact c3 q.2)]) (by
   unfold mundo_Right_l1_s
   rw [if_neg (by simp)])
  exact this
 have h:=iter_all? (step:=fun w=>mundo_Right_l2_s l w) (fun i:Nat=>(i:Int)) l.length (fun i=>decide (rightX (el l i) i)) () (fun i hi=>by
  unfold mundo_Right_l2_s
  rw [if_pos (by simp; omega),at_el l i hi,Option.bind_some,wrap_succ (by omega)]
  by_cases c1:((el l i).Supports.length:Int) > 20
  ·rw [if_pos (decide_eq_true c1),if_neg (by simp only [decide_eq_true_eq]; intro q; have:=q.1; omega)]
  rw [if_neg (by simpa using c1),h2 i _ (by omega),Option.bind_some]
  have:allN (fun j=>decide (rightS (el (el l i).Supports j) i)) (el l i).Supports.length = decide (rightX (el l i) i):=by
   rw [Bool.eq_iff_iff,allN_iff,decide_eq_true_eq]
   exact ⟨fun q=>⟨by omega,fun j hj=>of_decide_eq_true (q j hj)⟩,fun q j hj=>decide_eq_true (q.2 j hj)⟩
  rw [this]
  cases decide (rightX (el l i) i) <;> rfl) (by
  unfold mundo_Right_l2_s
  rw [if_neg (by simp)])
 unfold mundo_Right_l2
 rw [show ((0:Nat):Int) = 0 from rfl] at h
 rw [h,Option.bind_some]
 have:allN (fun i=>decide (rightX (el l i) i)) l.length = decide (rightL l):=by
  rw [Bool.eq_iff_iff,allN_iff,decide_eq_true_eq]
  exact ⟨fun q=>⟨hl,fun j hj=>of_decide_eq_true (q j hj)⟩,fun q j hj=>decide_eq_true (q.2 j hj)⟩
 rw [this]
 cases decide (rightL l) <;> rfl
theorem wholeF_allN (s:List Int) (f:Nat→Bool):wholeF s f = allN (fun i=>f (el s i).toNat) s.length:=by
 rw [Bool.eq_iff_iff,allN_iff]
 unfold wholeF
 rw [List.all_eq_true]
 exact ⟨fun h i hi=>h _ (el_mem s i hi),fun h k hk=>by obtain ⟨i,hi,rfl⟩:=mem_el hk; exact h i hi⟩
theorem whole_eq {s:List Int} {n:Nat} {f:Nat→Bool} (hn:n ≤ 1000) (hs:s.length ≤ 1000000) (h:∀ k ∈ s,0 ≤ k ∧ k.toNat < n):mundo_whole s (some (can n f)) = some (wholeF s f):=by
 obtain ⟨r,h1,h2⟩:=index_first (step:=fun w=>mslices_IndexFunc_int_int_112_s1_l1_s s (some (can n f)) w) s.length (fun i=>!f (el s i).toNat) (fun i hi=>by
  unfold mslices_IndexFunc_int_int_112_s1_l1_s mundo_whole_1_s1
  have hk:=h _ (el_mem s i hi)
  rw [if_pos (by simp; omega),at_el s i hi,Option.bind_some,if_pos (in64_small hk.1 (by omega)),Option.bind_some,wrap_succ (by omega)]
  have e:getO (el s i) false (some (can n f)) = f (el s i).toNat:=by
   show getG _ false (can n f) = _
   have:=can_get n f (el s i).toNat
   rw [Int.toNat_of_nonneg hk.1] at this
   rw [this,decide_eq_true hk.2,Bool.true_and]
  rw [e]
  cases f (el s i).toNat <;> rfl) (by
  unfold mslices_IndexFunc_int_int_112_s1_l1_s
  rw [if_neg (by simp)])
 unfold mundo_whole mslices_ContainsFunc_int_int_73_s1 mslices_IndexFunc_int_int_112_s1 mslices_IndexFunc_int_int_112_s1_l1
 rw [h1,Option.bind_some,h2]
 simp only [Option.bind_some,Bool.not_not]
 rw [wholeF_allN]
theorem held_eq {x:GLean} {n:Nat} {f:Nat→Bool} (hn:n ≤ 1000) (hx:x.Supports.length ≤ 1000000) (h:∀ s ∈ x.Supports,s.length ≤ 1000000 ∧ ∀ k ∈ s,0 ≤ k ∧ k.toNat < n):mundo_held x (some (can n f)) = some (heldF x f):=by
 unfold mundo_held
 by_cases c:x.Supports = []
 ·rw [if_pos (by rw [c]; rfl)]
  unfold heldF
  rw [c]; rfl
 have hne:¬ ((x.Supports.length:Int) == 0) = true:=by
  have:x.Supports.length ≠ 0:=fun q=>c (List.eq_nil_of_length_eq_zero q)
  simp; exact c
 rw [if_neg hne]
 obtain ⟨r,h1,h2⟩:=index_first (step:=fun w=>mslices_IndexFunc_int_int_113_s1_l1_s x.Supports (some (can n f)) w) x.Supports.length (fun i=>wholeF (el x.Supports i) f) (fun i hi=>by
  unfold mslices_IndexFunc_int_int_113_s1_l1_s mundo_held_1_s1
  obtain ⟨q1,q2⟩:=h _ (el_mem x.Supports i hi)
  rw [if_pos (by simp; omega),at_el _ i hi,Option.bind_some,whole_eq hn q1 q2,Option.bind_some,Option.bind_some,wrap_succ (by omega)]
  cases wholeF (el x.Supports i) f <;> rfl) (by
  unfold mslices_IndexFunc_int_int_113_s1_l1_s
  rw [if_neg (by simp)])
 unfold mslices_ContainsFunc_int_int_78_s1 mslices_IndexFunc_int_int_113_s1 mslices_IndexFunc_int_int_113_s1_l1
 rw [h1,Option.bind_some,h2,Option.bind_some]
 congr 1
 unfold heldF
 have:x.Supports.isEmpty = false:=by cases hq:x.Supports with | nil=>exact absurd hq c | cons a b=>rfl
 rw [this,Bool.false_or,Bool.eq_iff_iff,Bool.not_eq_true',List.any_eq_true]
 constructor
 ·intro q
  have q2:¬ ∀ i,i < x.Supports.length→(!wholeF (el x.Supports i) f) = true:=fun z=>by rw [allN_iff.2 z] at q; cases q
  rw [Classical.not_forall] at q2
  obtain ⟨i,q3⟩:=q2
  rw [Classical.not_imp] at q3
  exact ⟨_,el_mem _ i q3.1,by simpa using q3.2⟩
 ·rintro ⟨s,hs,hw⟩
  obtain ⟨i,hi,rfl⟩:=mem_el hs
  cases q:allN (fun i=>!wholeF (el x.Supports i) f) x.Supports.length with
  | false=>rfl
  | true=>have:=allN_iff.1 q i hi; rw [hw] at this; cases this
theorem held_right {l:List GLean} (h:rightL l) {i:Nat} (hi:i < l.length) (f:Nat→Bool):mundo_held (el l i) (some (can l.length f)) = some (heldF (el l i) f) :=
 held_eq (by have:=h.1; omega) (by have:=(h.2 i hi).1; omega) fun s hs=>⟨by have:=(right_sup h hi hs).1.2; omega,fun k hk=>by
  have:=right_mem h hi hs hk
  omega⟩
theorem standing_eq {l:List GLean} {sk:List Bool} (h:rightL l) (hl:sk.length = l.length):mundo_standing l sk = some (can l.length (stand l sk)):=by
 have hn:=h.1
 obtain ⟨x,h1,h2⟩:=iter_for (step:=fun (w:Int × MB)=>mundo_standing_l1_s l sk w.1 w.2) (fun (k:Nat) (a:MB)=>((k:Int),a)) l.length
  (fun k a=>a = can l.length (fun i=>decide (i < k) && stand l sk i)) (fun x=>x = can l.length (stand l sk))
  (fun k a hk ha=>by
   subst ha
   left
   simp only [mundo_standing_l1_s]
   rw [if_pos (by simp; omega),at_el l k hk,Option.bind_some,at_el sk k (by omega),Option.bind_some,wrap_succ (by omega)]
   have hst:=stand_eq h sk hk
   have hheld:heldF (el l k) (fun i=>decide (i < k) && stand l sk i) = heldF (el l k) (stand l sk):=heldF_congr fun s hs j hj=>by
    rw [decide_eq_true (right_mem h hk hs hj).2,Bool.true_and]
   by_cases c1:el sk k = true
   ·rw [c1,if_neg (by decide)]
    refine ⟨_,rfl,can_congr fun i hi=>?_⟩
    by_cases e:i = k
    ·subst e; rw [hst,c1]; simp
    ·have:decide (i < k + 1) = decide (i < k):=decide_eq_decide.2 ⟨fun q=>by omega,fun q=>by omega⟩
     rw [this]
   ·rw [if_pos (by simpa using c1),held_right h hk,Option.bind_some,hheld]
    have c1' : el sk k = false:=by simpa using c1
    by_cases c2:heldF (el l k) (stand l sk) = true
    ·rw [if_pos c2,if_pos (in64_small (by omega) (by omega)),if_pos (by have:=can_len l.length (fun i=>decide (i < k) && stand l sk i); omega),can_put _ _ _ hk]
     refine ⟨_,rfl,can_congr fun i hi=>?_⟩
     by_cases e:i = k
     ·subst e; rw [hst,c1',c2]; simp
     ·have:decide (i < k + 1) = decide (i < k):=decide_eq_decide.2 ⟨fun q=>by omega,fun q=>by omega⟩
      rw [this,decide_eq_false e,Bool.or_false]
    ·rw [if_neg c2]
     refine ⟨_,rfl,can_congr fun i hi=>?_⟩
     by_cases e:i = k
     ·subst e; rw [hst,c1']
      have:heldF (el l i) (stand l sk) = false:=by simpa using c2
      rw [this]; simp
     ·have:decide (i < k + 1) = decide (i < k):=decide_eq_decide.2 ⟨fun q=>by omega,fun q=>by omega⟩
      rw [this])
  (fun a ha=>by
   subst ha
   refine ⟨can l.length (fun i=>decide (i < l.length) && stand l sk i),?_,can_congr fun i hi=>by rw [decide_eq_true hi,Bool.true_and]⟩
   simp only [mundo_standing_l1_s]
   rw [if_neg (by simp)]) [] (by
   show [] = _
   rw [← can_none l.length]
   exact can_congr fun i hi=>by simp)
 unfold mundo_standing mundo_standing_l1
 rw [show ((0:Nat):Int) = 0 from rfl] at h1
 rw [h1,Option.bind_some,h2]
def ints (n:Nat) (f:Nat→Bool):List Bool:=(List.range n).map f
theorem ints_len (n:Nat) (f:Nat→Bool):(ints n f).length = n:=by simp [ints]
theorem ints_el {n:Nat} {f:Nat→Bool} {i:Nat} (h:i < n):el (ints n f) i = f i:=by
 unfold el ints
 rw [List.getD_eq_getElem?_getD,List.getElem?_map,List.getElem?_eq_getElem (by rw [List.length_range]; exact h),List.getElem_range]
 rfl
theorem Standing_eq (l:List GLean) (sk:List Bool):mundo_Standing l sk = some (if rightL l ∧ sk.length = l.length then ints l.length (stand l sk) else []):=by
 unfold mundo_Standing
 rw [rightU_eq,Option.bind_some]
 by_cases c1:rightL l
 ·rw [decide_eq_true c1,if_neg (by decide)]
  have hn:=c1.1
  by_cases c2:sk.length = l.length
  ·rw [if_neg (by rw [c2]; simp),if_pos (by omega),standing_eq c1 c2,Option.bind_some,if_pos (can_keysM _ _ _ (by simp)),if_pos ⟨c1,c2⟩,Int.toNat_natCast,can_mark]
   rfl
  ·rw [if_pos (by simp; omega),if_neg fun q=>c2 q.2]
 ·rw [decide_eq_false c1,if_pos (by decide),if_neg fun q=>c1 q.1]
theorem sort_can {A:Type} (n:Nat) (f:Nat→Bool) (hn:n ≤ 1000) (k:List Int→A):(if (can n f).length < 1000000000000 then some (k (keysO (some (can n f)))) else none) = some (k (idL n f)):=by
 rw [if_pos (by have:=can_len n f; omega),can_keys]
def setAll (more:List Int) (b:Bool) (sk:List Bool):List Bool:=more.foldl (fun p k=>p.set k.toNat b) sk
theorem setAll_len (b:Bool):∀ (more:List Int) (sk:List Bool),(setAll more b sk).length = sk.length
 | [],_=>rfl
 | k :: more,sk=>(setAll_len b more _).trans (List.length_set ..)
theorem el_setB (p:List Bool) (k i:Nat) (b:Bool) (h:k < p.length):el (p.set k b) i = if i = k then b else el p i:=by
 unfold el
 rw [List.getD_eq_getElem?_getD,List.getD_eq_getElem?_getD,List.getElem?_set]
 by_cases e:k = i
 ·subst e; simp [h]
 ·rw [if_neg e,if_neg (fun q=>e q.symm)]
def okM (n:Nat) (more:List Int):Prop:=∀ k ∈ more,0 ≤ k ∧ k.toNat < n
instance (n:Nat) (more:List Int):Decidable (okM n more):=by unfold okM; exact inferInstance
theorem outer_eq (more:List Int) (l:List GLean) (hm:more.length ≤ 1000000):mslices_ContainsFunc_int_int_73_s2 more l = some (!decide (okM l.length more)):=by
 obtain ⟨r,h1,h2⟩:=index_first (step:=fun w=>mslices_IndexFunc_int_int_112_s2_l1_s more l w) more.length (fun i=>!decide (0 ≤ el more i ∧ (el more i).toNat < l.length)) (fun i hi=>by
  unfold mslices_IndexFunc_int_int_112_s2_l1_s mundo_marked_1_s1
  rw [if_pos (by simp; omega),at_el _ i hi,Option.bind_some,wrap_succ (by omega)]
  by_cases c1:el more i < 0
  ·rw [if_pos (decide_eq_true c1),Option.bind_some,if_pos rfl,if_pos (by simp; omega)]
  ·rw [if_neg (by simpa using c1),Option.bind_some]
   by_cases c2:el more i ≥ (l.length:Int)
   ·rw [if_pos (decide_eq_true c2),if_pos (by simp; omega)]
   ·rw [if_neg (by simpa using c2),if_neg (by simp; omega)]) (by
  unfold mslices_IndexFunc_int_int_112_s2_l1_s
  rw [if_neg (by simp)])
 unfold mslices_ContainsFunc_int_int_73_s2 mslices_IndexFunc_int_int_112_s2 mslices_IndexFunc_int_int_112_s2_l1
 rw [h1,Option.bind_some,h2]
 congr 2
 simp only [Bool.not_not]
 rw [Bool.eq_iff_iff,allN_iff,decide_eq_true_eq]
 exact ⟨fun q k hk=>by obtain ⟨i,hi,rfl⟩:=mem_el hk; exact of_decide_eq_true (q i hi),fun q i hi=>decide_eq_true (q _ (el_mem _ i hi))⟩
theorem setloop {step:Int × List Bool→Option ((Int × List Bool) ⊕ List Bool)} (b:Bool) (more:List Int) (sk:List Bool) (hm:more.length ≤ 1000000) (hok:okM sk.length more)
  (h:∀ (i:Nat) (p:List Bool),i < more.length→p.length = sk.length→step ((i:Int),p) = some (.inl (((i + 1:Nat):Int),p.set (el more i).toNat b))) (he:∀ p,step ((more.length:Int),p) = some (.inr p)):Iter step (0,sk) = some (setAll more b sk):=by
 obtain ⟨x,h1,h2⟩:=iter_for (step:=step) (fun (k:Nat) (p:List Bool)=>((k:Int),p)) more.length (fun k p=>p.length = sk.length ∧ p = (more.take k).foldl (fun p k=>p.set k.toNat b) sk) (fun x=>x = setAll more b sk)
  (fun k p hk hp=>.inl ⟨_,h k p hk hp.1,by rw [List.length_set]; exact hp.1,by
   rw [List.take_add_one,List.foldl_append,← hp.2,List.getElem?_eq_getElem hk,el_lt _ _ hk]
   rfl⟩)
  (fun p hp=>⟨p,he p,by rw [hp.2,List.take_length]; rfl⟩) sk ⟨rfl,rfl⟩
 rw [show ((0:Nat):Int) = 0 from rfl] at h1
 rw [h1,h2]
theorem strike_l1 (l:List GLean) (sk:List Bool) (more:List Int) (hm:more.length ≤ 1000000) (hok:okM sk.length more) (p:List Bool) (hp:p.length = sk.length):mundo_Strike_l1 l sk more 0 p = some (setAll more true p):=by
 unfold mundo_Strike_l1
 refine setloop true more p hm (by rw [hp]; exact hok) (fun i q hi hq=>?_) fun q=>?_
 ·simp only [mundo_Strike_l1_s]
  have hk:=hok _ (el_mem more i hi)
  rw [if_pos (by simp; omega),at_el _ i hi,Option.bind_some,if_pos ⟨hk.1,by rw [hq,hp]; exact hk.2⟩,List.getElem?_eq_getElem (by rw [hq,hp]; exact hk.2),Option.bind_some,wrap_succ (by omega)]
 ·simp only [mundo_Strike_l1_s]
  rw [if_neg (by simp)]
theorem restore_l1 (l:List GLean) (sk:List Bool) (more:List Int) (hm:more.length ≤ 1000000) (hok:okM sk.length more) (p:List Bool) (hp:p.length = sk.length):mundo_Restore_l1 l sk more 0 p = some (setAll more false p):=by
 unfold mundo_Restore_l1
 refine setloop false more p hm (by rw [hp]; exact hok) (fun i q hi hq=>?_) fun q=>?_
 ·simp only [mundo_Restore_l1_s]
  have hk:=hok _ (el_mem more i hi)
  rw [if_pos (by simp; omega),at_el _ i hi,Option.bind_some,if_pos ⟨hk.1,by rw [hq,hp]; exact hk.2⟩,List.getElem?_eq_getElem (by rw [hq,hp]; exact hk.2),Option.bind_some,wrap_succ (by omega)]
 ·simp only [mundo_Restore_l1_s]
  rw [if_neg (by simp)]
theorem loop_one {step:Int × MB→Option ((Int × MB) ⊕ MB)} {a b:MB} (h0:step (0,a) = some (.inl (1,b))) (h1:step (1,b) = some (.inr b)):Iter step (0,a) = some b:=(iter_some h0).trans (iter_end h1)
theorem wrap1:IntKind.wrap .i64 ((0:Int) + 1) = 1:=wrap_id (by omega) (by omega)
theorem strike_j5 (n:Nat) (f g:Nat→Bool) (hn:n ≤ 1000):mundo_Strike_j5 (can n f) (can n g) = some (idL n fun i=>f i && !g i):=by
 unfold mundo_Strike_j5 mundo_Strike_l4
 rw [loop_one (b:=can n fun i=>f i && !g i) (by
  simp only [mundo_Strike_l4_s]
  rw [if_pos (by simp),if_pos (by omega),wrap1]
  simp only [Int.toNat_zero,List.getElem?_cons_zero,Option.bind_some,subO,can_sub]) (by
  simp only [mundo_Strike_l4_s]
  rw [if_neg (by simp)])]
 rw [Option.bind_some,sort_can n _ hn fun x=>x]
theorem restore_j5 (n:Nat) (f g:Nat→Bool) (hn:n ≤ 1000):mundo_Restore_j5 (can n f) (can n g) = some (idL n fun i=>g i && !f i):=by
 unfold mundo_Restore_j5 mundo_Restore_l4
 rw [loop_one (b:=can n fun i=>g i && !f i) (by
  simp only [mundo_Restore_l4_s]
  rw [if_pos (by simp),if_pos (by omega),wrap1]
  simp only [Int.toNat_zero,List.getElem?_cons_zero,Option.bind_some,subO,can_sub]) (by
  simp only [mundo_Restore_l4_s]
  rw [if_neg (by simp)])]
 rw [Option.bind_some,sort_can n _ hn fun x=>x]
theorem strike_j3:mundo_Strike_j3 = some ():=by
 unfold mundo_Strike_j3 mundo_Strike_l2
 have h:Iter (fun (w:Int)=>mundo_Strike_l2_s w) 0 = some ():=(iter_some (s':=1) (by
  simp only [mundo_Strike_l2_s]
  rw [if_pos (by simp),if_pos (by omega),wrap1]
  rfl)).trans (iter_end (by
  simp only [mundo_Strike_l2_s]
  rw [if_neg (by simp)]))
 rw [h]
 rfl
theorem restore_j3:mundo_Restore_j3 = some ():=by
 unfold mundo_Restore_j3 mundo_Restore_l2
 have h:Iter (fun (w:Int)=>mundo_Restore_l2_s w) 0 = some ():=(iter_some (s':=1) (by
  simp only [mundo_Restore_l2_s]
  rw [if_pos (by simp),if_pos (by omega),wrap1]
  rfl)).trans (iter_end (by
  simp only [mundo_Restore_l2_s]
  rw [if_neg (by simp)]))
 rw [h]
 rfl
theorem clone_eq (sk:List Bool) (h:sk.length ≤ 1000000):mslices_Clone_bool_bool sk = some sk:=if_pos (by omega)
def okS (l:List GLean) (sk:List Bool) (more:List Int):Prop:=(rightL l ∧ sk.length = l.length) ∧ okM l.length more
instance (l:List GLean) (sk:List Bool) (more:List Int):Decidable (okS l sk more):=by unfold okS; exact inferInstance
theorem Strike_eq (l:List GLean) (sk:List Bool) (more:List Int) (hm:more.length ≤ 1000000):mundo_Strike l sk more = some (if okS l sk more then idL l.length (fun i=>stand l sk i && !stand l (setAll more true sk) i) else []):=by
 unfold mundo_Strike
 rw [rightU_eq,Option.bind_some]
 by_cases c1:rightL l
 ·rw [decide_eq_true c1,if_neg (by decide)]
  have hn:=c1.1
  by_cases c2:sk.length = l.length
  ·rw [if_neg (by rw [c2]; simp),outer_eq _ _ hm,Option.bind_some]
   by_cases c3:okM l.length more
   ·rw [decide_eq_true c3,if_neg (by decide),clone_eq _ (by omega),Option.bind_some,strike_l1 l sk more hm (by rw [c2]; exact c3) sk rfl,Option.bind_some,standing_eq c1 c2,Option.bind_some,
     standing_eq c1 (by rw [setAll_len]; exact c2),Option.bind_some,strike_j5 _ _ _ (by omega),Option.bind_some,if_pos ⟨⟨c1,c2⟩,c3⟩]
   ·rw [decide_eq_false c3,if_pos (by decide),strike_j3,Option.bind_some,if_neg fun q=>c3 q.2]
  ·rw [if_pos (by simp; omega),strike_j3,Option.bind_some,if_neg fun q=>c2 q.1.2]
 ·rw [decide_eq_false c1,if_pos (by decide),strike_j3,Option.bind_some,if_neg fun q=>c1 q.1.1]
theorem Restore_eq (l:List GLean) (sk:List Bool) (more:List Int) (hm:more.length ≤ 1000000):mundo_Restore l sk more = some (if okS l sk more then idL l.length (fun i=>stand l (setAll more false sk) i && !stand l sk i) else []):=by
 unfold mundo_Restore
 rw [rightU_eq,Option.bind_some]
 by_cases c1:rightL l
 ·rw [decide_eq_true c1,if_neg (by decide)]
  have hn:=c1.1
  by_cases c2:sk.length = l.length
  ·rw [if_neg (by rw [c2]; simp),outer_eq _ _ hm,Option.bind_some]
   by_cases c3:okM l.length more
   ·rw [decide_eq_true c3,if_neg (by decide),clone_eq _ (by omega),Option.bind_some,restore_l1 l sk more hm (by rw [c2]; exact c3) sk rfl,Option.bind_some,standing_eq c1 c2,Option.bind_some,
     standing_eq c1 (by rw [setAll_len]; exact c2),Option.bind_some,restore_j5 _ _ _ (by omega),Option.bind_some,if_pos ⟨⟨c1,c2⟩,c3⟩]
   ·rw [decide_eq_false c3,if_pos (by decide),restore_j3,Option.bind_some,if_neg fun q=>c3 q.2]
  ·rw [if_pos (by simp; omega),restore_j3,Option.bind_some,if_neg fun q=>c2 q.1.2]
 ·rw [decide_eq_false c1,if_pos (by decide),restore_j3,Option.bind_some,if_neg fun q=>c1 q.1.1]
end Go.Proofs.Ytmekbfccmnjdcaa
