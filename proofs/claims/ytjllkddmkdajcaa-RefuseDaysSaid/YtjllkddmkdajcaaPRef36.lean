/- What the functions of package refuse answer, and that the reference of layer 36 answers the same. -/
import Derived.Test.YtjllkddmkdajcaaPReal9
import Derived.Test.YtjllkddmkdajcaaCalS
set_option linter.unusedVariables false
set_option linter.unusedSimpArgs false
namespace Go.Proofs.Ytjllkddmkdajcaa
open Go.RowKit Vm
theorem eq_of_el {α:Type} [Inhabited α] {a b:List α} (hl:a.length = b.length) (h:∀ i,i < a.length→el a i = el b i):a = b:=by
 refine List.ext_getElem hl fun i h1 h2=>?_
 have:=h i h1
 rwa [el_lt _ _ h1,el_lt _ _ h2] at this
theorem same_all {a b:List Int} (hl:a.length = b.length):allN (fun i=>decide (el a i = el b i)) a.length = decide (a = b):=by
 rw [Bool.eq_iff_iff,allN_iff,decide_eq_true_eq]
 simp only [decide_eq_true_eq]
 exact ⟨fun h=>eq_of_el hl h,fun h i hi=>by rw [h]⟩
theorem equal_eq (a b:List Int) (hl:a.length < 9223372036854775807):mslices_Equal_int_int a b = some (decide (a = b)):=by
 unfold mslices_Equal_int_int
 by_cases h:a.length = b.length
 ·have:mslices_Equal_int_int_l1 a b 0 = some (if allN (fun i=>decide (el a i = el b i)) a.length = true then .inl () else .inr ()):=by
   refine iter_all? (step:=fun w=>mslices_Equal_int_int_l1_s a b w) (fun i=>(i:Int)) _ _ _ ?_ ?_
   ·intro i hi
    simp only [mslices_Equal_int_int_l1_s,lt_t hi,if_true,at_el _ _ hi,at_el b i (by omega),Option.bind_some,wrap_succ (show i < 9223372036854775807 by omega),bne_iff_ne,decide_eq_true_eq]
    by_cases e:el a i = el b i <;> simp [e]
   ·simp only [mslices_Equal_int_int_l1_s,lt_f,if_false]
  rw [this,same_all h]
  cases hd:decide (a = b) <;> simp [h]
 ·have:¬ a = b:=fun e=>h (by rw [e])
  have h' : ((a.length:Int) != (b.length:Int)) = true:=by simp; omega
  rw [if_pos h',decide_eq_false this]
theorem sameInts_eq (a b:List Int) (hl:a.length < 9223372036854775807):mallongeref06_SameInts a b = some (decide (a = b)):=by
 unfold mallongeref06_SameInts
 by_cases h:a.length = b.length
 ·have:mallongeref06_SameInts_l1 a b 0 = some (if allN (fun i=>decide (el a i = el b i)) a.length = true then .inl () else .inr ()):=by
   refine iter_all? (step:=fun w=>mallongeref06_SameInts_l1_s a b w) (fun i=>(i:Int)) _ _ _ ?_ ?_
   ·intro i hi
    simp only [mallongeref06_SameInts_l1_s,lt_t hi,if_true,at_el _ _ hi,at_el b i (by omega),Option.bind_some,wrap_succ (show i < 9223372036854775807 by omega),bne_iff_ne,decide_eq_true_eq]
    by_cases e:el a i = el b i <;> simp [e]
   ·simp only [mallongeref06_SameInts_l1_s,lt_f,if_false]
  rw [this,same_all h]
  cases hd:decide (a = b) <;> simp [h]
 ·have:¬ a = b:=fun e=>h (by rw [e])
  have h' : ((a.length:Int) != (b.length:Int)) = true:=by simp; omega
  rw [if_pos h',decide_eq_false this]
def Small (l:List (List Int)):Prop:=l.length < 1000000 ∧ ∀ x ∈ l,x.length < 1000000
theorem first_mem (l:List (List Int)) (s:List Int):firstO (fun i=>if el l i = s then some (i:Int) else none) 0 l.length = none ↔ ¬ s ∈ l:=by
 rw [firstO_none]
 constructor
 ·intro h hm
  obtain ⟨i,hi,e⟩:=mem_el hm
  have:=h i (Nat.zero_le _) (by omega)
  rw [if_pos e] at this; cases this
 ·intro h i _ hi
  have:¬ el l i = s:=fun e=>h (e ▸ el_mem l i (by omega))
  rw [if_neg this]
theorem has_eq (l:List (List Int)) (s:List Int) (hl:Small l):mrefuse_has l s = some (decide (s ∈ l)):=by
 unfold mrefuse_has mslices_ContainsFunc_int_int_s1 mslices_IndexFunc_int_int_s1
 have:mslices_IndexFunc_int_int_s1_l1 l s 0 = some (toS () (firstO (fun i=>if el l i = s then some (i:Int) else none) 0 l.length)):=by
  refine iter_first (step:=fun w=>mslices_IndexFunc_int_int_s1_l1_s l s w) (fun i=>(i:Int)) _ _ _ ?_ ?_
  ·intro i hi
   have:=hl.2 _ (el_mem l i hi)
   have:=hl.1
   simp only [mslices_IndexFunc_int_int_s1_l1_s,mrefuse_has_1_s1,equal_eq (el l i) s (by omega),lt_t hi,if_true,at_el _ _ hi,Option.bind_some,wrap_succ (show i < 9223372036854775807 by omega),decide_eq_true_eq]
   by_cases e:el l i = s <;> simp [e]
  ·simp only [mslices_IndexFunc_int_int_s1_l1_s,lt_f,if_false]
 rw [this]
 have hm:=first_mem l s
 cases h:firstO (fun i=>if el l i = s then some (i:Int) else none) 0 l.length with
 | none =>
  rw [h] at hm
  rw [decide_eq_false (hm.1 rfl)]
  rfl
 | some k =>
  rw [h] at hm
  have:s ∈ l:=by
   by_cases q:s ∈ l
   ·exact q
   ·exact absurd (hm.2 q) (by simp)
  rw [decide_eq_true this]
  obtain ⟨i,_,_,h3,_⟩:=firstO_some _ 0 h
  split at h3
  ·cases h3
   simp [toS]
  ·cases h3
theorem ref_has_eq (l:List (List Int)) (s:List Int) (hl:Small l):mallongeref36_Has l s = some (decide (s ∈ l)):=by
 unfold mallongeref36_Has
 have:mallongeref36_Has_l1 l s 0 = some (if allN (fun i=>!decide (el l i = s)) l.length = true then .inl () else .inr ()):=by
  refine iter_all? (step:=fun w=>mallongeref36_Has_l1_s l s w) (fun i=>(i:Int)) _ _ _ ?_ ?_
  ·intro i hi
   have:=hl.2 _ (el_mem l i hi)
   have:=hl.1
   simp only [mallongeref36_Has_l1_s,sameInts_eq (el l i) s (by omega),lt_t hi,if_true,at_el _ _ hi,Option.bind_some,wrap_succ (show i < 9223372036854775807 by omega),decide_eq_true_eq]
   by_cases e:el l i = s <;> simp [e]
  ·simp only [mallongeref36_Has_l1_s,lt_f,if_false]
 rw [this]
 have hb:allN (fun i=>!decide (el l i = s)) l.length = !decide (s ∈ l):=by
  rw [Bool.eq_iff_iff,allN_iff]
  simp only [Bool.not_eq_true',decide_eq_false_iff_not]
  exact ⟨fun h hm=>by obtain ⟨i,hi,e⟩:=mem_el hm; exact h i hi e,fun h i hi e=>h (e ▸ el_mem l i hi)⟩
 rw [hb]
 cases decide (s ∈ l) <;> rfl
theorem Small.take {l:List (List Int)} (h:Small l) (n:Nat):Small (l.take n):=⟨by have:=h.1; simp; omega,fun x hx=>h.2 x (List.mem_of_mem_take hx)⟩
def setB (l:List Int):Bool:=allN (fun i=>decide (0 ≤ el l i ∧ (0 < i→el l (i - 1) < el l i))) l.length && decide (1 ≤ l.length ∧ l.length ≤ 40)
theorem set_eq (l:List Int) (hl:l.length < 9223372036854775807):mrefuse_set l = some (setB l):=by
 unfold mrefuse_set setB
 have:mrefuse_set_l1 l 0 = some (if allN (fun i=>decide (0 ≤ el l i ∧ (0 < i→el l (i - 1) < el l i))) l.length = true then .inl () else .inr ()):=by
  refine iter_all? (step:=fun w=>mrefuse_set_l1_s l w) (fun i=>(i:Int)) l.length _ _ ?_ ?_
  ·intro i hi'
   simp only [mrefuse_set_l1_s,lt_t hi',if_true,at_el _ _ hi',Option.bind_some,wrap_succ (show i < 9223372036854775807 by omega)]
   by_cases h3:0 < i
   ·have e1:IntKind.wrap .i64 ((i:Int) - 1) = ((i - 1:Nat):Int):=by rw [wrap_id (by omega) (by omega)]; omega
    rw [e1,at_el l (i - 1) (by omega)]
    simp only [Option.bind_some,decide_eq_true_eq]
    repeat (any_goals split)
    all_goals try (simp only [decide_eq_true_eq,Bool.not_eq_true,Bool.not_eq_true',decide_eq_false_iff_not,bne_iff_ne,beq_iff_eq,ne_eq,Decidable.not_not] at *)
    all_goals first | rfl | (exfalso; omega) | (rw [if_pos (by omega)]) | (rw [if_neg (by omega)]) | omega
   ·simp only [decide_eq_true_eq]
    repeat (any_goals split)
    all_goals try (simp only [decide_eq_true_eq,Bool.not_eq_true,Bool.not_eq_true',decide_eq_false_iff_not,bne_iff_ne,beq_iff_eq,ne_eq,Decidable.not_not] at *)
    all_goals first | rfl | (exfalso; omega) | (rw [if_pos (by omega)]) | (rw [if_neg (by omega)]) | omega
  ·simp only [mrefuse_set_l1_s,lt_f,if_false]
 rw [this]
 generalize allN _ _ = b
 cases b with
 | false=>rfl
 | true =>
  simp only [if_true,Option.bind_some,Sum.elim_inl,Bool.true_and]
  by_cases h1:(l.length:Int) ≥ 1
  ·rw [if_pos (by simpa using h1)]
   congr 1
   rw [decide_eq_decide]; omega
  ·rw [if_neg (by simpa using h1),decide_eq_false (by omega)]
theorem ref_set_eq (l:List Int):mallongeref36_Set l = some (setB l):=by
 unfold mallongeref36_Set setB
 have:mallongeref36_Set_l1 l 0 = some (if allN (fun i=>decide (0 ≤ el l i ∧ (0 < i→el l (i - 1) < el l i))) (min l.length 50) = true then .inl () else .inr ()):=by
  refine iter_all? (step:=fun w=>mallongeref36_Set_l1_s l w) (fun i=>(i:Int)) (min l.length 50) _ _ ?_ ?_
  ·intro i hi
   have hi' : i < l.length:=by omega
   have hi3:(i:Int) < 50:=by omega
   simp only [mallongeref36_Set_l1_s,lt_t hi',hi3,decide_true,if_true,at_el _ _ hi',Option.bind_some,wrap_succ (show i < 9223372036854775807 by omega)]
   by_cases h3:0 < i
   ·have e1:IntKind.wrap .i64 ((i:Int) - 1) = ((i - 1:Nat):Int):=by rw [wrap_id (by omega) (by omega)]; omega
    rw [e1,at_el l (i - 1) (by omega)]
    simp only [Option.bind_some,decide_eq_true_eq]
    repeat (any_goals split)
    all_goals try (simp only [decide_eq_true_eq,Bool.not_eq_true,Bool.not_eq_true',decide_eq_false_iff_not,bne_iff_ne,beq_iff_eq,ne_eq,Decidable.not_not] at *)
    all_goals first | rfl | (exfalso; omega) | (rw [if_pos (by omega)]) | (rw [if_neg (by omega)]) | omega
   ·simp only [decide_eq_true_eq]
    repeat (any_goals split)
    all_goals try (simp only [decide_eq_true_eq,Bool.not_eq_true,Bool.not_eq_true',decide_eq_false_iff_not,bne_iff_ne,beq_iff_eq,ne_eq,Decidable.not_not] at *)
    all_goals first | rfl | (exfalso; omega) | (rw [if_pos (by omega)]) | (rw [if_neg (by omega)]) | omega
  ·simp only [mallongeref36_Set_l1_s,decide_eq_true_eq]
   by_cases h:((min l.length 50:Nat):Int) < (l.length:Int)
   ·rw [if_pos h,if_neg (by omega)]
   ·rw [if_neg h]
 rw [this]
 by_cases h40:l.length ≤ 40
 ·rw [show min l.length 50 = l.length by omega]
  generalize allN _ _ = b
  cases b with
  | false=>rfl
  | true =>
   simp only [if_true,Option.bind_some,Sum.elim_inl,Bool.true_and]
   by_cases h1:(l.length:Int) ≥ 1
   ·rw [if_pos (by simpa using h1)]
    congr 1
    rw [decide_eq_decide]; omega
   ·rw [if_neg (by simpa using h1),decide_eq_false (by omega)]
 ·rw [decide_eq_false (show ¬ (1 ≤ l.length ∧ l.length ≤ 40) by omega),Bool.and_false]
  generalize allN _ _ = b
  have h1:(l.length:Int) ≥ 1:=by omega
  have h2:¬ (l.length:Int) ≤ 40:=by omega
  cases b <;> simp [h1,h2]
def lowOf (s:GShown) (i:Nat):Int:=if i = 0 then s.Arrived else (el s.Warnings (i - 1)).Day
def foundB (s:GShown):Bool:=allN (fun i=>setB (el s.Found i) && !decide (el s.Found i ∈ s.Found.take i)) s.Found.length
def warnB (s:GShown):Bool:=allN (fun i=>decide (lowOf s i ≤ (el s.Warnings i).Day ∧ (el s.Warnings i).Day ≤ 100000 ∧ (el s.Warnings i).Names.length ≤ 60)) s.Warnings.length
def headB (r:GRealm) (s:GShown):Bool:=decide ((0 ≤ s.City ∧ s.City < r.Cities.length) ∧ (0 ≤ s.Arrived ∧ s.Arrived ≤ 100000) ∧ s.Found.length ≤ 40 ∧ s.Warnings.length ≤ 20)
def fineB (r:GRealm) (s:GShown):Bool:=headB r s && (foundB s && warnB s)
structure SmallS (s:GShown):Prop where
 found:Small s.Found
 warn:s.Warnings.length < 1000000
 names:∀ x ∈ s.Warnings,Small x.Names
theorem fine_eq36 (r:GRealm) (s:GShown) (h:SmallS s):mrefuse_fine r s = some (fineB r s):=by
 have h1:=h.found.1
 have h2:=h.warn
 have l1:mrefuse_fine_l1 s 0 = some (if foundB s = true then .inl () else .inr ()):=by
  refine iter_all? (step:=fun w=>mrefuse_fine_l1_s s w) (fun i=>(i:Int)) s.Found.length _ _ ?_ ?_
  ·intro i hi
   have:=h.found.2 _ (el_mem _ i hi)
   simp only [mrefuse_fine_l1_s,lt_t hi,if_true,at_el _ _ hi,Option.bind_some,wrap_succ (show i < 9223372036854775807 by omega),set_eq (el s.Found i) (by omega)]
   rw [if_pos (show sliceOk s.Found.length 0 (i:Int) from ⟨by omega,by omega,by omega⟩),show sliceL s.Found 0 (i:Int) = s.Found.take i by simp [sliceL],has_eq _ _ (h.found.take i)]
   cases setB (el s.Found i) <;> cases decide (el s.Found i ∈ s.Found.take i) <;> rfl
  ·simp only [mrefuse_fine_l1_s,lt_f,if_false]
 have l2:mrefuse_fine_l2 s s.Arrived 0 = some (if warnB s = true then .inl () else .inr ()):=by
  refine iter_all? (step:=fun w=>mrefuse_fine_l2_s s w.1 w.2) (fun i=>(lowOf s i,(i:Int))) s.Warnings.length _ _ ?_ ?_
  ·intro i hi
   have:lowOf s (i + 1) = (el s.Warnings i).Day:=by simp [lowOf]
   simp only [mrefuse_fine_l2_s,lt_t hi,if_true,at_el _ _ hi,Option.bind_some,wrap_succ (show i < 9223372036854775807 by omega),this,decide_eq_true_eq]
   repeat (any_goals split)
   all_goals try (simp only [decide_eq_true_eq,Bool.not_eq_true,Bool.not_eq_true',decide_eq_false_iff_not,bne_iff_ne,beq_iff_eq,ne_eq,Decidable.not_not] at *)
   all_goals first | rfl | (exfalso; omega) | (rw [if_pos (by omega)]) | (rw [if_neg (by omega)]) | omega
  ·simp only [mrefuse_fine_l2_s,lt_f,if_false]
 unfold mrefuse_fine fineB headB
 rw [l1,l2]
 generalize foundB s = b1
 generalize warnB s = b2
 simp only [decide_eq_true_eq]
 by_cases g1:s.City < 0
 ·rw [if_pos g1,decide_eq_false (by omega)]; rfl
 rw [if_neg g1]
 by_cases g2:s.City ≥ r.Cities.length
 ·rw [if_pos g2,decide_eq_false (by omega)]; rfl
 rw [if_neg g2]
 by_cases g3:s.Arrived < 0
 ·rw [if_pos g3,decide_eq_false (by omega)]; rfl
 rw [if_neg g3]
 by_cases g4:s.Arrived > 100000
 ·rw [if_pos g4,decide_eq_false (by omega)]; rfl
 rw [if_neg g4]
 by_cases g5:(s.Found.length:Int) > 40
 ·rw [if_pos g5,decide_eq_false (by omega)]; rfl
 rw [if_neg g5]
 by_cases g6:(s.Warnings.length:Int) > 20
 ·rw [if_pos g6,decide_eq_false (by omega)]; rfl
 rw [if_neg g6,decide_eq_true (by omega)]
 cases b1 <;> cases b2 <;> rfl
def townOf (c:GCity):Town:=⟨c.Rest,c.Feasts,c.Shut⟩
theorem gTown_eq (c:GCity) (h1:c.Rest.length ≤ 1000000) (h2:c.Feasts.length ≤ 1000000) (h3:c.Shut.length ≤ 1000000):gTown c = some (townOf c):=by
 unfold gTown
 rw [if_pos ⟨by omega,by omega,by omega⟩]; rfl
def dueOf (r:GRealm) (s:GShown):Option Int:=Cal.plusAll (townOf (el r.Cities s.City.toNat)) s.Arrived 5
def lastOf (r:GRealm) (s:GShown):Int × Int:=if checkOf r = 0 then (if fineB r s = true then (Cal.got (dueOf r s),Cal.gotE (dueOf r s)) else (0,1)) else (0,checkOf r)
theorem fine_city {r:GRealm} {s:GShown} (h:fineB r s = true):0 ≤ s.City ∧ s.City < r.Cities.length:=by
 unfold fineB headB at h
 simp only [Bool.and_eq_true,decide_eq_true_eq] at h
 exact h.1.1
theorem last_eq (r:GRealm) (s:GShown) (f:FewL r) (w:GRealm.wf r) (h:SmallS s):mrefuse_last r s = some (lastOf r s):=by
 unfold mrefuse_last lastOf
 simp only [check_eq r f w,Option.bind_some,bne_iff_ne,fine_eq36 r s h]
 by_cases h0:checkOf r = 0
 ·rw [if_neg (by simpa using h0),if_pos h0]
  cases hf:fineB r s with
  | false=>rfl
  | true =>
   obtain ⟨c1,c2⟩:=fine_city hf
   obtain ⟨q1,q2,q3⟩:=f.cityL s.City.toNat (by omega)
   simp only [at_eq _ _ c1 c2,Option.bind_some,mcalendar_Plus,gTown_eq (el r.Cities s.City.toNat) (by omega) (by omega) (by omega)]
   rfl
 ·rw [if_pos (by simpa using h0),if_neg h0]
theorem check36_eq (r:GRealm) (s:GShown) (f:FewL r) (w:GRealm.wf r) (h:SmallS s):mrefuse_Check r s = some (lastOf r s).2:=by
 unfold mrefuse_Check; rw [last_eq r s f w h]; rfl
theorem last36_eq (r:GRealm) (s:GShown) (f:FewL r) (w:GRealm.wf r) (h:SmallS s):mrefuse_Last r s = some (lastOf r s):=by
 unfold mrefuse_Last; rw [last_eq r s f w h]; rfl
def missOf (found names:List (List Int)):List (List Int):=found.filter fun x=>!decide (x ∈ names)
theorem filter_take_succ (l:List (List Int)) (p:List Int→Bool) (i:Nat) (hi:i < l.length):(l.take (i + 1)).filter p = if p (el l i) = true then (l.take i).filter p ++ [el l i] else (l.take i).filter p:=by
 rw [← take_succ_el l i hi,List.filter_append]
 by_cases h:p (el l i) = true <;> simp [h]
theorem missing_eq (found:List (List Int)) (w:GWarning) (hF:Small found) (hn:Small w.Names):mrefuse_missing found w = some (missOf found w.Names):=by
 have hf:=hF.1
 unfold mrefuse_missing
 have:mrefuse_missing_l1 found w 0 [] = some (missOf found w.Names):=by
  have:=iter_all (step:=fun u=>mrefuse_missing_l1_s found w u.1 u.2) (fun i=>((i:Int),missOf (found.take i) w.Names)) found.length (missOf found w.Names) ?_ ?_
  ·exact this
  ·intro i hi
   have hle:(missOf (found.take i) w.Names).length ≤ i:=Nat.le_trans (List.length_filter_le _ _) (by simp; omega)
   have hs:=filter_take_succ found (fun x=>!decide (x ∈ w.Names)) i hi
   simp only [mrefuse_missing_l1_s,lt_t hi,if_true,at_el _ _ hi,Option.bind_some,wrap_succ (show i < 9223372036854775807 by omega),has_eq _ _ hn,mslices_Clone_int_int]
   have he:=hF.2 _ (el_mem _ i hi)
   rw [if_pos (show (el found i).length * 8 ≤ 140737488355328 by omega)]
   unfold missOf at hle ⊢
   simp only [Option.bind_some]
   rw [hs,if_pos (show (((found.take i).filter fun x=>!decide (x ∈ w.Names)).length + 1) * 24 ≤ 140737488355328 by omega)]
   cases decide (el found i ∈ w.Names) <;> rfl
  ·simp only [mrefuse_missing_l1_s,lt_f,if_false]
   simp
 rw [this]; rfl
def namesOf (s:GShown):List (List Int):=if s.Warnings.length = 0 then [] else (el s.Warnings 0).Names
theorem at_zero {α:Type} [Inhabited α] (l:List α) (h:0 < l.length):at? l 0 = some (el l 0):=at_el l 0 h
theorem missing36_eq (r:GRealm) (s:GShown) (f:FewL r) (w:GRealm.wf r) (h:SmallS s):mrefuse_Missing r s = some (if (lastOf r s).2 = 0 then missOf s.Found (namesOf s) else []):=by
 unfold mrefuse_Missing namesOf
 simp only [check36_eq r s f w h,Option.bind_some,bne_iff_ne,beq_iff_eq]
 have hf:=h.found.1
 by_cases h0:(lastOf r s).2 = 0
 ·rw [if_neg (by simpa using h0),if_pos h0]
  by_cases hw:s.Warnings.length = 0
  ·rw [if_pos (by omega),if_pos hw,missing_eq _ _ h.found ⟨by simp,fun x hx=>by cases hx⟩]; rfl
  ·rw [if_neg (by omega),if_neg hw,at_zero _ (by omega)]
   simp only [Option.bind_some]
   rw [missing_eq _ _ h.found (h.names _ (el_mem _ 0 (by omega)))]; rfl
 ·rw [if_pos (by simpa using h0),if_neg h0]
def boundOf (r:GRealm) (s:GShown) (day:Int):Int × Int :=
 if (lastOf r s).2 = 0 then
  (if day < s.Arrived then 2 else if s.Found = [] then 1 else if 0 < s.Warnings.length ∧ (el s.Warnings 0).Day ≤ day then (if (el s.Warnings 0).Day ≤ (lastOf r s).1 ∧ missOf s.Found (el s.Warnings 0).Names = [] then 0 else 1) else if day > (lastOf r s).1 then 1 else 2,0)
 else (0,(lastOf r s).2)
theorem bound_eq (r:GRealm) (s:GShown) (day:Int) (f:FewL r) (w:GRealm.wf r) (h:SmallS s):mrefuse_Bound r s day = some (boundOf r s day):=by
 unfold mrefuse_Bound boundOf
 have hf:=h.found.1
 simp only [last_eq r s f w h,Option.bind_some,bne_iff_ne,beq_iff_eq,decide_eq_true_eq]
 by_cases h0:(lastOf r s).2 = 0
 ·rw [if_neg (by simpa using h0),if_pos h0]
  by_cases h1:day < s.Arrived
  ·simp only [h1,if_true]
  rw [if_neg h1,if_neg h1]
  by_cases h2:s.Found = []
  ·rw [if_pos (by simp [h2]),if_pos h2]
  have h2' : ¬ (s.Found.length:Int) = 0:=fun e=>h2 (List.eq_nil_of_length_eq_zero (by omega))
  rw [if_neg h2',if_neg h2]
  by_cases h3:0 < s.Warnings.length
  ·rw [if_pos (show (s.Warnings.length:Int) > 0 by omega),at_zero _ h3]
   simp only [Option.bind_some]
   by_cases h4:(el s.Warnings 0).Day ≤ day
   ·rw [if_pos h4,if_pos ⟨h3,h4⟩]
    unfold mrefuse_Bound_j1
    rw [at_zero _ h3]
    simp only [Option.bind_some,missing_eq _ _ h.found (h.names _ (el_mem _ 0 h3)),decide_eq_true_eq]
    by_cases h7:(el s.Warnings 0).Day ≤ (lastOf r s).1 ∧ missOf s.Found (el s.Warnings 0).Names = []
    ·rw [if_pos h7,if_pos h7.1,h7.2]; rfl
    ·rw [if_neg h7]
     by_cases h5:(el s.Warnings 0).Day ≤ (lastOf r s).1
     ·have h6' : ¬ ((missOf s.Found (el s.Warnings 0).Names).length:Int) = 0:=fun e=>h7 ⟨h5,List.eq_nil_of_length_eq_zero (by omega)⟩
      have h6'' : ((((missOf s.Found (el s.Warnings 0).Names).length:Int) == 0) = true) = False:=by simpa using h6'
      rw [if_pos h5]
      simp only [h6'',if_false,Option.bind_some]
     ·rw [if_neg h5]; rfl
   ·have n1:¬ (0 < s.Warnings.length ∧ (el s.Warnings 0).Day ≤ day):=fun q=>h4 q.2
    rw [if_neg h4,if_neg n1]
    by_cases h5:day > (lastOf r s).1 <;> simp [h5]
  ·have n1:¬ (0 < s.Warnings.length ∧ (el s.Warnings 0).Day ≤ day):=fun q=>h3 q.1
   rw [if_neg (show ¬ (s.Warnings.length:Int) > 0 by omega),if_neg n1]
   by_cases h5:day > (lastOf r s).1 <;> simp [h5]
 ·rw [if_pos (by simpa using h0),if_neg h0]
theorem ref_check36_eq (r:GRealm) (s:GShown) (f:FewL r) (w:GRealm.wf r) (h:SmallS s):mallongeref36_Check r s = some (lastOf r s).2:=by
 have h1:=h.found.1
 have h2:=h.warn
 have h3:=f.cit
 have l1:mallongeref36_Check_l1 r s 0 = some (if foundB s = true then .inl () else .inr ()):=by
  refine iter_all? (step:=fun w=>mallongeref36_Check_l1_s r s w) (fun i=>(i:Int)) s.Found.length _ _ ?_ ?_
  ·intro i hi
   simp only [mallongeref36_Check_l1_s,lt_t hi,if_true,at_el _ _ hi,Option.bind_some,wrap_succ (show i < 9223372036854775807 by omega),ref_set_eq]
   rw [if_pos (show sliceOk s.Found.length 0 (i:Int) from ⟨by omega,by omega,by omega⟩),show sliceL s.Found 0 (i:Int) = s.Found.take i by simp [sliceL],ref_has_eq _ _ (h.found.take i)]
   cases setB (el s.Found i) <;> cases decide (el s.Found i ∈ s.Found.take i) <;> rfl
  ·simp only [mallongeref36_Check_l1_s,lt_f,if_false]
 have l2:mallongeref36_Check_l3 r s 0 = some (if warnB s = true then .inl () else .inr ()):=by
  refine iter_all? (step:=fun w=>mallongeref36_Check_l3_s r s w) (fun i=>(i:Int)) s.Warnings.length _ _ ?_ ?_
  ·intro i hi
   have hj:∀ low,mallongeref36_Check_j2 r s i low = some (if decide (low ≤ (el s.Warnings i).Day ∧ (el s.Warnings i).Day ≤ 100000 ∧ (el s.Warnings i).Names.length ≤ 60) = true then .inl () else .inr ()):=by
    intro low
    simp only [mallongeref36_Check_j2,at_el _ _ hi,Option.bind_some,within_eq,decide_eq_true_eq]
    repeat (any_goals split)
    all_goals try (simp only [decide_eq_true_eq,Bool.not_eq_true,Bool.not_eq_true',decide_eq_false_iff_not,bne_iff_ne,beq_iff_eq,ne_eq,Decidable.not_not] at *)
    all_goals first | rfl | (exfalso; omega) | (rw [if_pos (by omega)]) | (rw [if_neg (by omega)]) | omega
   by_cases h0:0 < i
   ·have e1:IntKind.wrap .i64 ((i:Int) - 1) = ((i - 1:Nat):Int):=by rw [wrap_id (by omega) (by omega)]; omega
    have h0' : (i:Int) > 0:=by omega
    have hl:lowOf s i = (el s.Warnings (i - 1)).Day:=by unfold lowOf; rw [if_neg (by omega)]
    simp only [mallongeref36_Check_l3_s,lt_t hi,if_true,h0',decide_true,e1,at_el s.Warnings (i - 1) (by omega),Option.bind_some,hj,wrap_succ (show i < 9223372036854775807 by omega),hl]
    generalize decide ((el s.Warnings (i - 1)).Day ≤ (el s.Warnings i).Day ∧ (el s.Warnings i).Day ≤ 100000 ∧ (el s.Warnings i).Names.length ≤ 60) = b
    cases b <;> rfl
   ·obtain rfl:i = 0:=by omega
    simp only [mallongeref36_Check_l3_s,lt_t hi,if_true]
    rw [if_neg (by simp)]
    have hj0:=hj s.Arrived
    simp only [hj0,Option.bind_some]
    have hl:lowOf s 0 = s.Arrived:=rfl
    rw [hl]
    generalize decide (s.Arrived ≤ (el s.Warnings 0).Day ∧ (el s.Warnings 0).Day ≤ 100000 ∧ (el s.Warnings 0).Names.length ≤ 60) = b
    cases b <;> rfl
  ·simp only [mallongeref36_Check_l3_s,lt_f,if_false]
 unfold mallongeref36_Check lastOf
 rw [wrap_id (by omega) (by omega),l1,l2]
 simp only [ref_check_eq r f w,Option.bind_some,within_eq,bne_iff_ne]
 by_cases h0:checkOf r = 0
 ·rw [if_neg (by simpa using h0),if_pos h0]
  have eh:headB r s = (decide (0 ≤ s.City ∧ s.City ≤ (r.Cities.length:Int) - 1) && (decide (0 ≤ s.Arrived ∧ s.Arrived ≤ 100000) && (!decide ((s.Found.length:Int) > 40) && !decide ((s.Warnings.length:Int) > 20)))):=by
   unfold headB
   rw [Bool.eq_iff_iff]
   simp only [Bool.and_eq_true,decide_eq_true_eq,Bool.not_eq_true',decide_eq_false_iff_not]
   omega
  unfold fineB
  rw [eh]
  generalize decide (0 ≤ s.Arrived ∧ s.Arrived ≤ 100000) = b2
  generalize decide ((s.Found.length:Int) > 40) = b3
  generalize decide ((s.Warnings.length:Int) > 20) = b4
  by_cases g1:0 ≤ s.City ∧ s.City ≤ (r.Cities.length:Int) - 1
  ·obtain ⟨q1,q2,q3⟩:=f.cityL s.City.toNat (by omega)
   simp only [at_eq r.Cities s.City g1.1 (by omega),Option.bind_some,mallongeref04_Plus,gTown_eq (el r.Cities s.City.toNat) (by omega) (by omega) (by omega),Option.map_some]
   rw [decide_eq_true g1]
   cases b2 <;> cases b3 <;> cases b4 <;> cases foundB s <;> cases warnB s <;> rfl
  ·rw [decide_eq_false g1]; rfl
 ·rw [if_pos (by simpa using h0),if_neg h0]
theorem ref_last36_eq (r:GRealm) (s:GShown) (f:FewL r) (w:GRealm.wf r) (h:SmallS s):mallongeref36_Last r s = some (lastOf r s):=by
 unfold mallongeref36_Last
 simp only [ref_check36_eq r s f w h,Option.bind_some,bne_iff_ne]
 unfold lastOf
 by_cases h0:checkOf r = 0
 ·rw [if_pos h0]
  cases hf:fineB r s with
  | false=>rfl
  | true =>
   obtain ⟨c1,c2⟩:=fine_city hf
   obtain ⟨q1,q2,q3⟩:=f.cityL s.City.toNat (by omega)
   simp only [if_true,at_eq _ _ c1 c2,Option.bind_some,mallongeref04_Plus,gTown_eq (el r.Cities s.City.toNat) (by omega) (by omega) (by omega),Option.map_some]
   unfold dueOf
   generalize Cal.plusAll (townOf (el r.Cities s.City.toNat)) s.Arrived 5 = o
   cases o <;> rfl
 ·rw [if_neg h0,if_pos (by simpa using h0)]
theorem ref_missing_eq (r:GRealm) (s:GShown) (f:FewL r) (w:GRealm.wf r) (h:SmallS s):mallongeref36_Missing r s = some (if (lastOf r s).2 = 0 then missOf s.Found (namesOf s) else []):=by
 unfold mallongeref36_Missing
 simp only [ref_check36_eq r s f w h,Option.bind_some,bne_iff_ne]
 have hf:=h.found.1
 by_cases h0:(lastOf r s).2 = 0
 ·rw [if_neg (by simpa using h0),if_pos h0]
  have:mallongeref36_Missing_l2 s 0 [] = some (missOf s.Found (namesOf s)):=by
   have:=iter_all (step:=fun u=>mallongeref36_Missing_l2_s s u.1 u.2) (fun i=>((i:Int),missOf (s.Found.take i) (namesOf s))) s.Found.length (missOf s.Found (namesOf s)) ?_ ?_
   ·exact this
   ·intro i hi
    have hle:(missOf (s.Found.take i) (namesOf s)).length ≤ i:=Nat.le_trans (List.length_filter_le _ _) (by simp; omega)
    have hs:=filter_take_succ s.Found (fun x=>!decide (x ∈ namesOf s)) i hi
    have hj:∀ b,mallongeref36_Missing_j1 s i (missOf (s.Found.take i) (namesOf s)) b = some (if b = true then missOf (s.Found.take i) (namesOf s) else missOf (s.Found.take i) (namesOf s) ++ [el s.Found i]):=by
     intro b
     simp only [mallongeref36_Missing_j1,at_el _ _ hi,Option.bind_some]
     rw [if_pos (show ((missOf (s.Found.take i) (namesOf s)).length + 1) * 24 ≤ 140737488355328 by omega)]
     cases b <;> rfl
    have hg:missOf (s.Found.take (i + 1)) (namesOf s) = if decide (el s.Found i ∈ namesOf s) = true then missOf (s.Found.take i) (namesOf s) else missOf (s.Found.take i) (namesOf s) ++ [el s.Found i]:=by
     unfold missOf
     rw [hs]
     cases decide (el s.Found i ∈ namesOf s) <;> rfl
    simp only [mallongeref36_Missing_l2_s,lt_t hi,if_true,wrap_succ (show i < 9223372036854775807 by omega),hg,decide_eq_true_eq,hj]
    by_cases hw:0 < s.Warnings.length
    ·rw [if_pos (show (s.Warnings.length:Int) > 0 by omega),at_zero _ hw,at_el _ _ hi]
     have hn:namesOf s = (el s.Warnings 0).Names:=by unfold namesOf; rw [if_neg (by omega)]
     simp only [Option.bind_some,ref_has_eq _ _ (h.names _ (el_mem _ 0 hw)),hj]
     rw [← hn]
     simp
    ·have hn:namesOf s = []:=by unfold namesOf; rw [if_pos (by omega)]
     rw [if_neg (show ¬ (s.Warnings.length:Int) > 0 by omega)]
     simp [hn]
   ·simp only [mallongeref36_Missing_l2_s,lt_f,if_false]
    simp
  rw [this]; rfl
 ·rw [if_pos (by simpa using h0),if_neg h0]
theorem warn_low {s:GShown} (h:warnB s = true) (ha:0 ≤ s.Arrived):∀ i,i < s.Warnings.length→s.Arrived ≤ (el s.Warnings i).Day ∧ (el s.Warnings i).Day ≤ 100000:=by
 unfold warnB at h
 rw [allN_iff] at h
 simp only [decide_eq_true_eq] at h
 intro i
 induction i with
 | zero=>intro hi; have:=h 0 hi; unfold lowOf at this; rw [if_pos rfl] at this; exact ⟨this.1,this.2.1⟩
 | succ i ih =>
  intro hi
  have h1:=ih (by omega)
  have:=h (i + 1) hi
  unfold lowOf at this
  rw [if_neg (by omega)] at this
  exact ⟨by have:=this.1; simp at this; omega,this.2.1⟩
theorem last_zero {r:GRealm} {s:GShown} (h:(lastOf r s).2 = 0):checkOf r = 0 ∧ fineB r s = true ∧ ∃ x,dueOf r s = some x ∧ (lastOf r s).1 = x:=by
 unfold lastOf at h ⊢
 by_cases h0:checkOf r = 0
 ·rw [if_pos h0] at h ⊢
  cases hf:fineB r s with
  | false=>rw [hf] at h; cases h
  | true =>
   rw [hf] at h
   simp only [if_true] at h ⊢
   cases hd:dueOf r s with
   | none=>rw [hd] at h; cases h
   | some x=>exact ⟨h0,trivial,x,rfl,rfl⟩
 ·rw [if_neg h0] at h
  exact absurd h h0
theorem fine_parts {r:GRealm} {s:GShown} (h:fineB r s = true):headB r s = true ∧ foundB s = true ∧ warnB s = true:=by
 unfold fineB at h
 simp only [Bool.and_eq_true] at h
 exact ⟨h.1,h.2.1,h.2.2⟩
theorem fine_arrived {r:GRealm} {s:GShown} (h:fineB r s = true):0 ≤ s.Arrived ∧ s.Arrived ≤ 100000:=by
 have:=(fine_parts h).1
 unfold headB at this
 simp only [decide_eq_true_eq] at this
 exact this.2.1
theorem ref_bound_eq (r:GRealm) (s:GShown) (day:Int) (f:FewL r) (w:GRealm.wf r) (h:SmallS s):mallongeref36_Bound r s day = some (boundOf r s day):=by
 unfold mallongeref36_Bound boundOf
 have hf:=h.found.1
 simp only [ref_last36_eq r s f w h,Option.bind_some,bne_iff_ne,beq_iff_eq,decide_eq_true_eq]
 by_cases h0:(lastOf r s).2 = 0
 ·rw [if_neg (by simpa using h0),if_pos h0]
  by_cases h1:day < s.Arrived
  ·simp only [h1,if_true]
  rw [if_neg h1,if_neg h1]
  by_cases h2:s.Found = []
  ·rw [if_pos (by simp [h2]),if_pos h2]
  have h2' : ¬ (s.Found.length:Int) = 0:=fun e=>h2 (List.eq_nil_of_length_eq_zero (by omega))
  rw [if_neg h2',if_neg h2]
  by_cases h3:0 < s.Warnings.length
  ·rw [if_pos (show (s.Warnings.length:Int) > 0 by omega),at_zero _ h3]
   simp only [Option.bind_some]
   by_cases h4:(el s.Warnings 0).Day ≤ day
   ·rw [if_pos h4,if_pos ⟨h3,h4⟩]
    obtain ⟨_,hfi,_⟩:=last_zero h0
    have hlow:=warn_low (fine_parts hfi).2.2 (fine_arrived hfi).1 0 h3
    have ha:=(fine_arrived hfi).1
    have hn:namesOf s = (el s.Warnings 0).Names:=by unfold namesOf; rw [if_neg (by omega)]
    have hR:mallongeref36_Refused r s = some (if (el s.Warnings 0).Day ≤ (lastOf r s).1 ∧ missOf s.Found (el s.Warnings 0).Names = [] then (el s.Warnings 0).Day else -1):=by
     unfold mallongeref36_Refused
     simp only [ref_missing_eq r s f w h,ref_last36_eq r s f w h,Option.bind_some,bne_iff_ne,beq_iff_eq,decide_eq_true_eq,at_zero _ h3]
     rw [if_neg h2',if_neg (by omega),if_pos h0,hn]
     by_cases h6:missOf s.Found (el s.Warnings 0).Names = []
     ·rw [h6,if_neg (show ¬ ((([]:List (List Int)).length:Nat):Int) > 0 by simp),if_neg (by simpa using h0)]
      by_cases h5:(el s.Warnings 0).Day > (lastOf r s).1
      ·have n1:¬ ((el s.Warnings 0).Day ≤ (lastOf r s).1 ∧ ([]:List (List Int)) = []):=fun q=>by omega
       rw [if_pos h5,if_neg n1]
      ·have n1:(el s.Warnings 0).Day ≤ (lastOf r s).1 ∧ ([]:List (List Int)) = []:=⟨by omega,rfl⟩
       rw [if_neg h5,if_pos n1]
     ·have h6' : 0 < (missOf s.Found (el s.Warnings 0).Names).length:=List.length_pos_iff.2 h6
      have n1:¬ ((el s.Warnings 0).Day ≤ (lastOf r s).1 ∧ missOf s.Found (el s.Warnings 0).Names = []):=fun q=>h6 q.2
      rw [if_pos (show ((missOf s.Found (el s.Warnings 0).Names).length:Int) > 0 by omega),if_neg n1]
    rw [hR]
    by_cases h7:(el s.Warnings 0).Day ≤ (lastOf r s).1 ∧ missOf s.Found (el s.Warnings 0).Names = []
    ·rw [if_pos h7,if_pos h7]
     simp only [Option.bind_some]
     rw [if_pos (show (el s.Warnings 0).Day ≥ 0 by omega)]
    ·rw [if_neg h7,if_neg h7]
     rfl
   ·have n1:¬ (0 < s.Warnings.length ∧ (el s.Warnings 0).Day ≤ day):=fun q=>h4 q.2
    rw [if_neg h4,if_neg n1]
    by_cases h5:day > (lastOf r s).1 <;> simp [h5]
  ·have n1:¬ (0 < s.Warnings.length ∧ (el s.Warnings 0).Day ≤ day):=fun q=>h3 q.1
   rw [if_neg (show ¬ (s.Warnings.length:Int) > 0 by omega),if_neg n1]
   by_cases h5:day > (lastOf r s).1 <;> simp [h5]
 ·rw [if_pos (by simpa using h0),if_neg h0]
theorem sameLists_refl (l:List (List Int)) (h:Small l):mallongeref06_SameLists l l = some true:=by
 unfold mallongeref06_SameLists
 have h1:=h.1
 have:mallongeref06_SameLists_l1 l l 0 = some (.inl ()):=by
  refine iter_all (step:=fun w=>mallongeref06_SameLists_l1_s l l w) (fun i=>(i:Int)) l.length _ ?_ ?_
  ·intro i hi
   have:=h.2 _ (el_mem l i hi)
   simp only [mallongeref06_SameLists_l1_s,lt_t hi,if_true,at_el _ _ hi,Option.bind_some,wrap_succ (show i < 9223372036854775807 by omega),sameInts_eq (el l i) _ (by omega)]
   simp
  ·simp only [mallongeref06_SameLists_l1_s,lt_f,if_false]
 rw [this]
 simp
theorem few36_spec (s:GShown):∃ b,mallongeref36_Few s = some b ∧ (b = true→SmallS s ∧ s.Found.length < 50 ∧ s.Warnings.length < 30 ∧ ∀ i,i < s.Warnings.length→(el s.Warnings i).Names.length ≤ 70):=by
 have l1:∃ x,mallongeref36_Few_l1 s 0 = some x ∧ (x = .inl ()→∀ i,i < s.Found.length→i < 50→(el s.Found i).length ≤ 50):=by
  obtain ⟨x,hx,hq⟩:=iter_spec (step:=fun w=>mallongeref36_Few_l1_s s w) (fun i=>(i:Int)) (min s.Found.length 50) (fun i=>(el s.Found i).length ≤ 50) (fun x=>x = .inl ()→∀ i,i < s.Found.length→i < 50→(el s.Found i).length ≤ 50) (by
   intro i hi
   have hi1:i < s.Found.length:=by omega
   have hi3:(i:Int) < 50:=by omega
   simp only [mallongeref36_Few_l1_s,lt_t hi1,if_true,at_el _ _ hi1,Option.bind_some,wrap_succ (show i < 9223372036854775807 by omega),decide_eq_true_eq,hi3]
   by_cases h1:((el s.Found i).length:Int) > 50
   ·exact .inr ⟨.inr (),by simp [h1],fun _ h=>by cases h⟩
   ·exact .inl ⟨by simp [h1],by omega⟩) (by
   refine ⟨.inl (),?_,fun h _ i h1 h2=>h i (by omega)⟩
   simp only [mallongeref36_Few_l1_s,decide_eq_true_eq]
   by_cases h:((min s.Found.length 50:Nat):Int) < (s.Found.length:Int)
   ·rw [if_pos h,if_neg (by omega)]
   ·rw [if_neg h])
  exact ⟨x,hx,hq⟩
 have l2:∀ k,k < s.Warnings.length→(el s.Warnings k).Names.length ≤ 70→∃ x,mallongeref36_Few_l2 s k 0 = some x ∧ (x = .inl ()→∀ i,i < (el s.Warnings k).Names.length→(el (el s.Warnings k).Names i).length ≤ 50):=by
  intro k hk h70
  obtain ⟨x,hx,hq⟩:=iter_spec (step:=fun w=>mallongeref36_Few_l2_s s k w) (fun i=>(i:Int)) (el s.Warnings k).Names.length (fun i=>(el (el s.Warnings k).Names i).length ≤ 50) (fun x=>x = .inl ()→∀ i,i < (el s.Warnings k).Names.length→(el (el s.Warnings k).Names i).length ≤ 50) (by
   intro i hi
   simp only [mallongeref36_Few_l2_s,at_el _ _ hk,lt_t hi,if_true,at_el _ _ hi,Option.bind_some,wrap_succ (show i < 9223372036854775807 by omega),decide_eq_true_eq]
   by_cases h1:((el (el s.Warnings k).Names i).length:Int) > 50
   ·exact .inr ⟨.inr (),by simp [h1,hi],fun _ h=>by cases h⟩
   ·exact .inl ⟨by simp [h1,hi],by omega⟩) (by
   refine ⟨.inl (),?_,fun h _=>h⟩
   simp only [mallongeref36_Few_l2_s,at_el _ _ hk,Option.bind_some,lt_f,if_false])
  exact ⟨x,hx,hq⟩
 have l3:∃ x,mallongeref36_Few_l3 s 0 = some x ∧ (x = .inl ()→∀ i,i < s.Warnings.length→i < 30→Small (el s.Warnings i).Names ∧ (el s.Warnings i).Names.length ≤ 70):=by
  obtain ⟨x,hx,hq⟩:=iter_spec (step:=fun w=>mallongeref36_Few_l3_s s w) (fun i=>(i:Int)) (min s.Warnings.length 30) (fun i=>Small (el s.Warnings i).Names ∧ (el s.Warnings i).Names.length ≤ 70) (fun x=>x = .inl ()→∀ i,i < s.Warnings.length→i < 30→Small (el s.Warnings i).Names ∧ (el s.Warnings i).Names.length ≤ 70) (by
   intro i hi
   have hi1:i < s.Warnings.length:=by omega
   have hi3:(i:Int) < 30:=by omega
   simp only [mallongeref36_Few_l3_s,lt_t hi1,if_true,at_el _ _ hi1,Option.bind_some,wrap_succ (show i < 9223372036854775807 by omega),decide_eq_true_eq,hi3]
   by_cases h1:((el s.Warnings i).Names.length:Int) > 70
   ·exact .inr ⟨.inr (),by simp [h1],fun _ h=>by cases h⟩
   ·obtain ⟨x,hx,hq⟩:=l2 i hi1 (by omega)
    rw [if_neg h1,hx]
    cases x with
    | inr u=>exact .inr ⟨.inr (),rfl,fun _ h=>by cases h⟩
    | inl u=>exact .inl ⟨rfl,⟨by omega,fun y hy=>by obtain ⟨j,hj,rfl⟩:=mem_el hy; have:=hq rfl j hj; omega⟩,by omega⟩) (by
   refine ⟨.inl (),?_,fun h _ i h1 h2=>h i (by omega)⟩
   simp only [mallongeref36_Few_l3_s,decide_eq_true_eq]
   by_cases h:((min s.Warnings.length 30:Nat):Int) < (s.Warnings.length:Int)
   ·rw [if_pos h,if_neg (by omega)]
   ·rw [if_neg h])
  exact ⟨x,hx,hq⟩
 obtain ⟨x,hx,qx⟩:=l1
 obtain ⟨y,hy,qy⟩:=l3
 unfold mallongeref36_Few
 rw [hx,hy]
 cases x with
 | inr u=>exact ⟨false,rfl,fun h=>by cases h⟩
 | inl u =>
  cases y with
  | inr u=>exact ⟨false,rfl,fun h=>by cases h⟩
  | inl u =>
   refine ⟨decide (s.Found.length < 50 ∧ s.Warnings.length < 30),?_,fun h=>?_⟩
   ·simp only [Option.bind_some,Sum.elim_inl]
    by_cases h1:s.Found.length < 50
    ·rw [if_pos (by simp; omega)]
     congr 1
     rw [decide_eq_decide]; omega
    ·rw [if_neg (by simp; omega),decide_eq_false (fun q=>h1 q.1)]
   ·rw [decide_eq_true_eq] at h
    refine ⟨⟨⟨by omega,fun z hz=>?_⟩,by omega,fun z hz=>?_⟩,h.1,h.2,fun i hi=>(qy rfl i hi (by omega)).2⟩
    ·obtain ⟨j,hj,rfl⟩:=mem_el hz
     have:=qx rfl j hj (by omega); omega
    ·obtain ⟨j,hj,rfl⟩:=mem_el hz
     exact (qy rfl j hj (by omega)).1
end Go.Proofs.Ytjllkddmkdajcaa
