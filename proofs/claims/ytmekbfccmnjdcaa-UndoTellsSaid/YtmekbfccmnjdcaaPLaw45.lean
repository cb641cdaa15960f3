/- Layer 45 (undo): the laws without the reference. -/
import Derived.Test.YtmekbfccmnjdcaaPUndo3
set_option linter.unusedVariables false
set_option linter.unusedSimpArgs false
namespace Go.Proofs.Ytmekbfccmnjdcaa
open Go.RowKit Vm
theorem few_total (l:List GLean):∃ b,mallongeref45_Few l = some b:=by
 have hin:∀ i,i < l.length→(el l i).Supports.length ≤ 25→∃ x,mallongeref45_Few_l1 l (i:Int) 0 = some x:=fun i hi hs=>by
  unfold mallongeref45_Few_l1
  obtain ⟨x,h1,_⟩:=iter_spec (step:=fun w=>mallongeref45_Few_l1_s l (i:Int) w) (fun k:Nat=>(k:Int)) (el l i).Supports.length (fun _=>True) (fun _=>True)
   (fun k hk=>by
    unfold mallongeref45_Few_l1_s
    rw [at_el l i hi,Option.bind_some,if_pos (by simp; omega),Option.bind_some,at_el _ k hk,Option.bind_some,wrap_succ (by omega)]
    by_cases c:((el (el l i).Supports k).length:Int) > 25
    ·right; exact ⟨_,if_pos (decide_eq_true c),fun _=>trivial⟩
    ·left; exact ⟨if_neg (by simpa using c),trivial⟩)
   ⟨.inl (),by
    unfold mallongeref45_Few_l1_s
    rw [at_el l i hi,Option.bind_some,if_neg (by simp)],fun _=>trivial⟩
  exact ⟨x,h1⟩
 obtain ⟨x,h1,_⟩:=iter_spec (step:=fun w=>mallongeref45_Few_l2_s l w) (fun k:Nat=>(k:Int)) (min l.length 60) (fun _=>True) (fun _=>True)
  (fun k hk=>by
   have hkl:k < l.length:=by omega
   unfold mallongeref45_Few_l2_s
   rw [if_pos (by simp; omega),if_pos (by simp; omega),at_el l k hkl,Option.bind_some,wrap_succ (by omega)]
   by_cases c:((el l k).Supports.length:Int) > 25
   ·right; exact ⟨_,if_pos (decide_eq_true c),fun _=>trivial⟩
   ·rw [if_neg (by simpa using c)]
    obtain ⟨y,hy⟩:=hin k hkl (by omega)
    rw [hy,Option.bind_some]
    cases y with
    | inl _=>left; exact ⟨rfl,trivial⟩
    | inr _=>right; exact ⟨_,rfl,fun _=>trivial⟩)
  ⟨.inl (),by
   unfold mallongeref45_Few_l2_s
   by_cases c:l.length ≤ 60
   ·rw [Nat.min_eq_left c,if_neg (by simp)]
   ·rw [Nat.min_eq_right (by omega),if_pos (by simp; omega),if_neg (by decide)],fun _=>trivial⟩
 unfold mallongeref45_Few mallongeref45_Few_l2
 rw [show ((0:Nat):Int) = 0 from rfl] at h1
 rw [h1,Option.bind_some]
 cases x with
 | inr _=>exact ⟨_,rfl⟩
 | inl _ =>
  simp only [Sum.elim_inl]
  split
  ·exact ⟨_,rfl⟩
  ·split <;> exact ⟨_,rfl⟩
theorem all_eq (s:List Int) (m:List Bool) (hs:s.length ≤ 1000000) (hok:okM m.length s):mallongeref45_All s m = some (wholeF s (el m)):=by
 have h:=iter_all? (step:=fun w=>mallongeref45_All_l1_s s m w) (fun i:Nat=>(i:Int)) s.length (fun i=>el m (el s i).toNat) () (fun i hi=>by
  have hk:=hok _ (el_mem s i hi)
  unfold mallongeref45_All_l1_s
  rw [if_pos (by simp; omega),at_el s i hi,Option.bind_some,at_eq m _ hk.1 (by omega),Option.bind_some,wrap_succ (by omega)]
  cases el m (el s i).toNat <;> rfl) (by
  unfold mallongeref45_All_l1_s
  rw [if_neg (by simp)])
 rw [show ((0:Nat):Int) = 0 from rfl] at h
 unfold mallongeref45_All mallongeref45_All_l1
 rw [h,Option.bind_some,← wholeF_allN s (el m)]
 cases wholeF s (el m) <;> rfl
theorem some_eq (s:List Int) (m:List Bool) (hs:s.length ≤ 1000000) (hok:okM m.length s):mallongeref45_Some s m = some (s.any fun k=>el m k.toNat):=by
 have h:=iter_all? (step:=fun w=>mallongeref45_Some_l1_s s m w) (fun i:Nat=>(i:Int)) s.length (fun i=>!el m (el s i).toNat) () (fun i hi=>by
  have hk:=hok _ (el_mem s i hi)
  unfold mallongeref45_Some_l1_s
  rw [if_pos (by simp; omega),at_el s i hi,Option.bind_some,at_eq m _ hk.1 (by omega),Option.bind_some,wrap_succ (by omega)]
  cases el m (el s i).toNat <;> rfl) (by
  unfold mallongeref45_Some_l1_s
  rw [if_neg (by simp)])
 rw [show ((0:Nat):Int) = 0 from rfl] at h
 unfold mallongeref45_Some mallongeref45_Some_l1
 have e:allN (fun i=>!el m (el s i).toNat) s.length = !(s.any fun k=>el m k.toNat):=by
  rw [← wholeF_allN s (fun k=>!el m k)]
  unfold wholeF
  rw [Bool.eq_iff_iff,List.all_eq_true,Bool.not_eq_true',List.any_eq_false]
  exact ⟨fun q k hk=>by simpa using q k hk,fun q k hk=>by simpa using q k hk⟩
 rw [h,Option.bind_some,e]
 cases s.any fun k=>el m k.toNat <;> rfl
theorem refHeld_eq {l:List GLean} (h:rightL l) {i:Nat} (hi:i < l.length) (m:List Bool) (hm:m.length = l.length):mallongeref45_Held (el l i) m = some (heldF (el l i) (el m)):=by
 have hsup:=(h.2 i hi).1
 have hh:=iter_all? (step:=fun w=>mallongeref45_Held_l1_s (el l i) m w) (fun k:Nat=>(k:Int)) (el l i).Supports.length (fun k=>!wholeF (el (el l i).Supports k) (el m)) () (fun k hk=>by
  have hmem:=el_mem (el l i).Supports k hk
  have hr:=right_sup h hi hmem
  unfold mallongeref45_Held_l1_s
  rw [if_pos (by simp; omega),at_el _ k hk,Option.bind_some,all_eq _ _ (by have:=hr.1.2; omega) (fun z hz=>by have:=right_mem h hi hmem hz; omega),Option.bind_some,wrap_succ (by omega)]
  cases wholeF (el (el l i).Supports k) (el m) <;> rfl) (by
  unfold mallongeref45_Held_l1_s
  rw [if_neg (by simp)])
 rw [show ((0:Nat):Int) = 0 from rfl] at hh
 unfold mallongeref45_Held mallongeref45_Held_l1
 rw [hh,Option.bind_some]
 unfold heldF
 have e:allN (fun k=>!wholeF (el (el l i).Supports k) (el m)) (el l i).Supports.length = !((el l i).Supports.any fun s=>wholeF s (el m)):=by
  rw [Bool.eq_iff_iff,allN_iff,Bool.not_eq_true',List.any_eq_false]
  exact ⟨fun q s hs=>by obtain ⟨k,hk,rfl⟩:=mem_el hs; simpa using q k hk,fun q k hk=>by simpa using q _ (el_mem _ k hk)⟩
 rw [e]
 cases c:(el l i).Supports.any fun s=>wholeF s (el m) with
 | true=>simp
 | false =>
  show some (((el l i).Supports.length:Int) == 0) = _
  rw [Bool.or_false]
  congr 1
  cases (el l i).Supports with
  | nil=>rfl
  | cons a t=>simp; omega
theorem sameB_eq (a b:List Bool) (ha:a.length ≤ 1000000) (h:a = b):mallongeref12_SameBools a b = some true:=by
 subst h
 unfold mallongeref12_SameBools
 rw [if_neg (by simp)]
 have hh:=iter_all? (step:=fun w=>mallongeref12_SameBools_l1_s a a w) (fun i:Nat=>(i:Int)) a.length (fun _=>true) () (fun i hi=>by
  unfold mallongeref12_SameBools_l1_s
  rw [if_pos (by simp; omega),at_el a i hi,Option.bind_some,Option.bind_some,wrap_succ (by omega)]
  simp) (by
  unfold mallongeref12_SameBools_l1_s
  rw [if_neg (by simp)])
 rw [show ((0:Nat):Int) = 0 from rfl] at hh
 unfold mallongeref12_SameBools_l1
 rw [hh,Option.bind_some,if_pos (allN_iff.2 fun _ _=>rfl)]
 rfl
theorem sameI_eq (a b:List Int) (ha:a.length ≤ 1000000) (h:a = b):mallongeref06_SameInts a b = some true:=by
 subst h
 unfold mallongeref06_SameInts
 rw [if_neg (by simp)]
 have hh:=iter_all? (step:=fun w=>mallongeref06_SameInts_l1_s a a w) (fun i:Nat=>(i:Int)) a.length (fun _=>true) () (fun i hi=>by
  unfold mallongeref06_SameInts_l1_s
  rw [if_pos (by simp; omega),at_el a i hi,Option.bind_some,Option.bind_some,wrap_succ (by omega)]
  simp) (by
  unfold mallongeref06_SameInts_l1_s
  rw [if_neg (by simp)])
 rw [show ((0:Nat):Int) = 0 from rfl] at hh
 unfold mallongeref06_SameInts_l1
 rw [hh,Option.bind_some,if_pos (allN_iff.2 fun _ _=>rfl)]
 rfl
theorem refRising_eq (s:List Int) (n:Int) (hs:s.length ≤ 1000000):mallongeref45_Rising s n = some (decide (risingP s n)):=by
 have h:=iter_all? (step:=fun w=>mallongeref45_Rising_l1_s s n w) (fun i:Nat=>(i:Int)) s.length (riseB s n) () (fun i hi=>by
  unfold mallongeref45_Rising_l1_s
  rw [if_pos (by simp; omega),at_el s i hi,Option.bind_some,wrap_succ (by omega)]
  unfold riseB
  by_cases c1:el s i < 0
  ·rw [if_pos (decide_eq_true c1),if_neg (by simp; omega)]
  rw [if_neg (by simpa using c1),Option.bind_some]
  by_cases c2:el s i ≥ n
  ·rw [if_pos (decide_eq_true c2),if_neg (by simp; omega)]
  rw [if_neg (by simpa using c2)]
  by_cases c3:(i:Int) > 0
  ·rw [if_pos (decide_eq_true c3),Option.bind_some]
   have e:IntKind.wrap .i64 ((i:Int) - 1) = ((i - 1:Nat):Int):=by rw [wrap_id (by omega) (by omega)]; omega
   rw [e,at_el s (i - 1) (by omega),Option.bind_some]
   by_cases c4:el s i ≤ el s (i - 1)
   ·rw [if_pos (decide_eq_true c4),if_neg (by simp; omega)]
   ·rw [if_neg (by simpa using c4),if_pos (by simp; omega)]
  ·rw [if_neg (by simpa using c3),if_pos (by simp; omega)]) (by
  unfold mallongeref45_Rising_l1_s
  rw [if_neg (by simp)])
 unfold mallongeref45_Rising mallongeref45_Rising_l1
 rw [show ((0:Nat):Int) = 0 from rfl] at h
 rw [h,Option.bind_some,riseB_all]
 cases decide (risingP s n) <;> rfl
end Go.Proofs.Ytmekbfccmnjdcaa
