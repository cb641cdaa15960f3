/- The laws of layer 36 (refuse). -/
import Derived.Test.YtjllkddmkdajcaaPRef36
set_option linter.unusedVariables false
set_option linter.unusedSimpArgs false
namespace Go.Proofs.Ytjllkddmkdajcaa
open Go.RowKit Vm
theorem last_after {r:GRealm} {s:GShown} (h:(lastOf r s).2 = 0):s.Arrived < (lastOf r s).1 ∧ Cal.okDay (lastOf r s).1 ∧ Cal.openD (townOf (el r.Cities s.City.toNat)) (lastOf r s).1 = true ∧ Cal.cnt (townOf (el r.Cities s.City.toNat)) (s.Arrived + 1) (lastOf r s).1 = 5:=by
 obtain ⟨_,hf,x,hx,hl⟩:=last_zero h
 rw [hl]
 have ha:=fine_arrived hf
 have hd:Cal.okDay s.Arrived:=⟨ha.1,ha.2⟩
 unfold dueOf Cal.plusAll at hx
 rw [if_pos ⟨hd,by omega,by omega⟩] at hx
 obtain ⟨p1,p2,p3,p4,p5⟩:=Cal.plus_some _ _ _ _ hx hd
 obtain ⟨q1,q2⟩:=p4 (by decide)
 refine ⟨q1,p1,q2,?_⟩
 rw [Cal.cnt_after _ _ _ q1,p5]
 rfl
theorem bound_vals {r:GRealm} {s:GShown} (h:(lastOf r s).2 = 0) (day:Int):(boundOf r s day).2 = 0 ∧ 0 ≤ (boundOf r s day).1 ∧ (boundOf r s day).1 < 3:=by
 unfold boundOf
 rw [if_pos h]
 refine ⟨rfl,?_,?_⟩ <;> (simp only; repeat' split) <;> decide
theorem bound_first {r:GRealm} {s:GShown} (h:(lastOf r s).2 = 0) (day:Int):(boundOf r s day).1 = if day < s.Arrived then 2 else if s.Found = [] then 1 else if 0 < s.Warnings.length ∧ (el s.Warnings 0).Day ≤ day then (if (el s.Warnings 0).Day ≤ (lastOf r s).1 ∧ missOf s.Found (el s.Warnings 0).Names = [] then 0 else 1) else if day > (lastOf r s).1 then 1 else 2:=by
 unfold boundOf; rw [if_pos h]
theorem bound_stays {r:GRealm} {s:GShown} (h:(lastOf r s).2 = 0) {a b:Int} (hab:a ≤ b) (ha:(boundOf r s a).1 ≠ 2):(boundOf r s b).1 = (boundOf r s a).1:=by
 rw [bound_first h] at ha ⊢
 rw [bound_first h]
 by_cases h1:a < s.Arrived
 ·rw [if_pos h1] at ha; exact absurd rfl ha
 rw [if_neg h1] at ha ⊢
 rw [if_neg (show ¬ b < s.Arrived by omega)]
 by_cases h2:s.Found = []
 ·rw [if_pos h2,if_pos h2]
 rw [if_neg h2] at ha ⊢
 rw [if_neg h2]
 by_cases h3:0 < s.Warnings.length ∧ (el s.Warnings 0).Day ≤ a
 ·have h3' : 0 < s.Warnings.length ∧ (el s.Warnings 0).Day ≤ b:=⟨h3.1,by omega⟩
  rw [if_pos h3,if_pos h3']
 ·rw [if_neg h3] at ha ⊢
  by_cases h4:a > (lastOf r s).1
  ·rw [if_pos h4]
   by_cases h5:0 < s.Warnings.length ∧ (el s.Warnings 0).Day ≤ b
   ·rw [if_pos h5]
    have h6:¬ ((el s.Warnings 0).Day ≤ (lastOf r s).1 ∧ missOf s.Found (el s.Warnings 0).Names = []):=fun q=>h3 ⟨h5.1,by omega⟩
    rw [if_neg h6]
   ·rw [if_neg h5,if_pos (show b > (lastOf r s).1 by omega)]
  ·rw [if_neg h4] at ha; exact absurd rfl ha
theorem miss_nil {found names:List (List Int)}:missOf found names = [] ↔ ∀ x ∈ found,x ∈ names:=by
 unfold missOf
 rw [List.filter_eq_nil_iff]
 simp
theorem miss_all {found names:List (List Int)}:allN (fun i=>decide (el found i ∈ names)) found.length = true ↔ missOf found names = []:=by
 rw [allN_iff,miss_nil]
 simp only [decide_eq_true_eq]
 exact ⟨fun h x hx=>by obtain ⟨i,hi,rfl⟩:=mem_el hx; exact h i hi,fun h i hi=>h _ (el_mem _ i hi)⟩
theorem last_same {r:GRealm} {s t:GShown} (h:(lastOf r s).2 = 0) (h1:t.City = s.City) (h2:t.Arrived = s.Arrived) (h3:fineB r t = true):lastOf r t = lastOf r s:=by
 obtain ⟨q1,q2,_⟩:=last_zero h
 unfold lastOf dueOf
 rw [if_pos q1,if_pos q1,if_pos h3,if_pos q2,h1,h2]
theorem found_iff {s:GShown}:foundB s = true ↔ (∀ x ∈ s.Found,setB x = true) ∧ s.Found.Nodup:=by
 unfold foundB
 rw [allN_iff]
 simp only [Bool.and_eq_true,Bool.not_eq_true',decide_eq_false_iff_not]
 constructor
 ·intro h
  refine ⟨fun x hx=>by obtain ⟨i,hi,rfl⟩:=mem_el hx; exact (h i hi).1,?_⟩
  rw [List.nodup_iff_pairwise_ne,List.pairwise_iff_getElem]
  intro i j hi hj hij e
  apply (h j hj).2
  rw [el_lt _ _ hj,← e]
  rw [List.mem_iff_getElem]
  exact ⟨i,by simp; omega,by simp⟩
 ·rintro ⟨h1,h2⟩ i hi
  refine ⟨h1 _ (el_mem _ i hi),fun hm=>?_⟩
  rw [List.nodup_iff_pairwise_ne,List.pairwise_iff_getElem] at h2
  obtain ⟨j,hj,e⟩:=List.mem_iff_getElem.1 hm
  have hj' : j < i:=by simp at hj; omega
  rw [List.getElem_take,el_lt _ _ hi] at e
  exact h2 j i (by omega) hi hj' e
section
variable (hs:mallongelaw36_sane = some true)
include hs
theorem law36_tells (r:GRealm) (s:GShown) (day:Int) (w:GRealm.wf r):mallongelaw36_RefuseTells r s day = some true:=by
 unfold mallongelaw36_RefuseTells
 obtain ⟨x,e1,f⟩:=few_spec r
 rw [hs,e1]
 cases x with
 | false=>rfl
 | true =>
  have f:=f rfl
  obtain ⟨y,e2,g⟩:=few36_spec s
  simp only [Option.bind_some,Bool.not_true,Bool.false_eq_true,if_false,e2]
  cases y with
  | false=>rfl
  | true =>
   obtain ⟨g,_,_,_⟩:=g rfl
   have hsm:Small (if (lastOf r s).2 = 0 then missOf s.Found (namesOf s) else []):=by
    by_cases h0:(lastOf r s).2 = 0
    ·rw [if_pos h0]
     exact ⟨Nat.lt_of_le_of_lt (List.length_filter_le _ _) g.found.1,fun x hx=>g.found.2 x (List.mem_filter.1 hx).1⟩
    ·rw [if_neg h0]
     exact ⟨by simp,fun x hx=>by cases hx⟩
   simp only [last36_eq r s f w g,ref_last36_eq r s f w g,bound_eq r s day f w g,ref_bound_eq r s day f w g,check36_eq r s f w g,ref_check36_eq r s f w g,missing36_eq r s f w g,ref_missing_eq r s f w g,Option.bind_some,sameLists_refl _ hsm]
   simp
theorem law36_stays (r:GRealm) (s:GShown) (day more:Int) (w:GRealm.wf r):mallongelaw36_RefuseStays r s day more = some true:=by
 unfold mallongelaw36_RefuseStays
 obtain ⟨x,e1,f⟩:=few_spec r
 rw [hs,e1]
 cases x with
 | false=>rfl
 | true =>
  have f:=f rfl
  obtain ⟨y,e2,g⟩:=few36_spec s
  simp only [Option.bind_some,Bool.not_true,Bool.false_eq_true,if_false,e2]
  cases y with
  | false=>rfl
  | true =>
   obtain ⟨g,g1,g2,g3⟩:=g rfl
   simp only [check36_eq r s f w g,Option.bind_some,Bool.not_true,Bool.false_eq_true,if_false,bne_iff_ne,decide_eq_true_eq]
   by_cases h0:(lastOf r s).2 = 0
   ·rw [if_neg (by simpa using h0)]
    by_cases d1:day < -1000
    ·rw [if_pos d1]
    rw [if_neg d1]
    by_cases d2:day > 200000
    ·rw [if_pos d2]
    rw [if_neg d2]
    by_cases d3:more < 0
    ·rw [if_pos d3]
    rw [if_neg d3]
    by_cases d4:more > 200000
    ·rw [if_pos d4]
    rw [if_neg d4]
    rw [wrap_id (by omega) (by omega)]
    obtain ⟨v1,v2,v3⟩:=bound_vals h0 day
    obtain ⟨u1,u2,u3⟩:=bound_vals h0 (day + more)
    simp only [last36_eq r s f w g,bound_eq r s _ f w g,Option.bind_some]
    obtain ⟨_,hfi,x,hdx,hlx⟩:=last_zero h0
    have hA:=last_after h0
    have key:mallongelaw36_RefuseStays_j5 s day true (lastOf r s) (boundOf r s day) = some true:=by
     have hlow:=warn_low (fine_parts hfi).2.2 (fine_arrived hfi).1
     have hv:=bound_first h0 day
     have hj3:∀ b c:Bool,b = decide (0 < s.Warnings.length ∧ (el s.Warnings 0).Day ≤ day)→c = decide (s.Found ≠ [] ∧ (0 < s.Warnings.length ∧ (el s.Warnings 0).Day ≤ day) ∧ (el s.Warnings 0).Day ≤ (lastOf r s).1 ∧ missOf s.Found (el s.Warnings 0).Names = [])→mallongelaw36_RefuseStays_j3 day true (lastOf r s) (boundOf r s day) b c = some true:=by
      intro b c hb hc
      subst hb hc
      unfold mallongelaw36_RefuseStays_j3
      rw [hv]
      by_cases h1:day < s.Arrived
      ·have n2:¬ (0 < s.Warnings.length ∧ (el s.Warnings 0).Day ≤ day):=fun q=>by have:=hlow 0 q.1; omega
       have n3:day ≤ (lastOf r s).1:=by omega
       rw [decide_eq_false n2,decide_eq_false (fun q=>n2 q.2.1)]
       simp [h1,n3]
      ·by_cases h2:s.Found = []
       ·rw [decide_eq_false (show ¬ (s.Found ≠ [] ∧ _) from fun q=>q.1 h2)]
        simp [h1,h2]
       ·by_cases h3:0 < s.Warnings.length ∧ (el s.Warnings 0).Day ≤ day
        ·by_cases h4:(el s.Warnings 0).Day ≤ (lastOf r s).1 ∧ missOf s.Found (el s.Warnings 0).Names = []
         ·rw [decide_eq_true (show s.Found ≠ [] ∧ _ from ⟨h2,h3,h4⟩),if_neg h1,if_neg h2,if_pos h3,if_pos h4]
          simp
         ·rw [decide_eq_false (show ¬ (s.Found ≠ [] ∧ _) from fun q=>h4 q.2.2),if_neg h1,if_neg h2,if_pos h3,if_neg h4]
          simp
        ·rw [decide_eq_false (show ¬ (s.Found ≠ [] ∧ _) from fun q=>h3 q.2.1),decide_eq_false h3,if_neg h1,if_neg h2,if_neg h3]
         by_cases h5:day > (lastOf r s).1
         ·rw [if_pos h5]; simp
         ·have n3:day ≤ (lastOf r s).1:=by omega
          rw [if_neg h5]; simp [n3]
     have hj2:∀ (x:GWarning) (b:Bool),0 < s.Warnings.length→mallongelaw36_RefuseStays_j2 s day true (lastOf r s) (boundOf r s day) x b = some (b && decide (missOf s.Found (el s.Warnings 0).Names = [])):=by
      intro x b hw
      unfold mallongelaw36_RefuseStays_j2
      have hl:mallongelaw36_RefuseStays_l1 s day true (lastOf r s) (boundOf r s day) x b 0 = some (b && allN (fun i=>decide (el s.Found i ∈ (el s.Warnings 0).Names)) s.Found.length):=by
       have:=iter_all (step:=fun w=>mallongelaw36_RefuseStays_l1_s s day true (lastOf r s) (boundOf r s day) x w.1 w.2) (fun i=>((b && allN (fun i=>decide (el s.Found i ∈ (el s.Warnings 0).Names)) i),(i:Int))) s.Found.length (b && allN (fun i=>decide (el s.Found i ∈ (el s.Warnings 0).Names)) s.Found.length) ?_ ?_
       ·simp only [allN,Bool.and_true] at this
        exact this
       ·intro i hi
        simp only [mallongelaw36_RefuseStays_l1_s,lt_t hi,if_true,at_el _ _ hi,at_zero _ hw,Option.bind_some,wrap_succ (show i < 9223372036854775807 by omega),ref_has_eq _ _ (g.names _ (el_mem _ 0 hw)),allN]
        generalize allN _ i = c
        cases b <;> cases c <;> simp
       ·simp only [mallongelaw36_RefuseStays_l1_s,lt_f,if_false]
      rw [hl]
      have he:allN (fun i=>decide (el s.Found i ∈ (el s.Warnings 0).Names)) s.Found.length = decide (missOf s.Found (el s.Warnings 0).Names = []):=by
       rw [Bool.eq_iff_iff,miss_all,decide_eq_true_eq]
      rw [he]; rfl
     have hj4:∀ b:Bool,b = decide (s.Found ≠ [] ∧ 0 < s.Warnings.length)→mallongelaw36_RefuseStays_j4 s day true (lastOf r s) (boundOf r s day) b = some true:=by
      intro b hb
      unfold mallongelaw36_RefuseStays_j4
      by_cases hw:0 < s.Warnings.length
      ·rw [if_pos (by simp; omega),at_zero _ hw]
       simp only [Option.bind_some]
       by_cases hF:s.Found = []
       ·have hbf:b = false:=by rw [hb]; simp [hF]
        subst hbf
        simp only [Bool.false_eq_true,if_false,hj2 _ _ hw,Option.bind_some,Bool.false_and]
        rw [hj3 _ _ (by rw [decide_eq_decide]; simp [hw]) (by simp [hF])]
        rfl
       ·have hbt:b = true:=by rw [hb]; simp [hF,hw]
        subst hbt
        simp only [if_true,decide_eq_true_eq]
        by_cases hd:(el s.Warnings 0).Day ≤ day
        ·rw [if_pos hd,hj2 _ _ hw]
         simp only [Option.bind_some]
         rw [hj3 _ _ (by rw [decide_eq_decide]; simp [hw]) (by rw [← Bool.decide_and,decide_eq_decide]; simp [hF,hw,hd])]
         rfl
        ·rw [if_neg hd,hj2 _ _ hw]
         simp only [Option.bind_some,Bool.false_and]
         rw [hj3 _ _ (by rw [decide_eq_decide]; simp [hw]) (by simp [hd])]
         rfl
      ·rw [if_neg (show ¬ decide ((s.Warnings.length:Int) > 0) = true from by rw [decide_eq_true_eq]; omega)]
       have hbf:b = false:=by rw [hb]; simp [hw]
       subst hbf
       rw [hj3 _ _ (by simp [hw]) (by simp [hw])]
       rfl
     unfold mallongelaw36_RefuseStays_j5
     by_cases hF:s.Found = []
     ·rw [if_neg (by simp [hF]),hj4 _ (by simp [hF])]; rfl
     ·have:0 < s.Found.length:=List.length_pos_iff.2 hF
      rw [if_pos (by simp; omega),hj4 _ (by simp [hF])]; rfl
    rw [key]
    rw [if_neg (by simpa using h0),if_neg (by simpa using v1),if_neg (by simpa using u1),if_neg (by omega),if_neg (by omega)]
    by_cases ha:(boundOf r s day).1 = 2
    ·rw [if_neg (by simpa using ha)]; rfl
    ·rw [if_pos (by simpa using ha),if_neg (by simpa using (bound_stays h0 (show day ≤ day + more by omega) ha).symm)]; rfl
   ·rw [if_pos (by simpa using h0)]
theorem law36_once (r:GRealm) (s:GShown) (day:Int) (w:GRealm.wf r):mallongelaw36_RefuseOnce r s day = some true:=by
 unfold mallongelaw36_RefuseOnce
 obtain ⟨x,e1,f⟩:=few_spec r
 rw [hs,e1]
 cases x with
 | false=>rfl
 | true =>
  have f:=f rfl
  obtain ⟨y,e2,g⟩:=few36_spec s
  simp only [Option.bind_some,Bool.not_true,Bool.false_eq_true,if_false,e2]
  cases y with
  | false=>rfl
  | true =>
   obtain ⟨g,g1,g2,g3⟩:=g rfl
   simp only [check36_eq r s f w g,Option.bind_some,Bool.not_true,Bool.false_eq_true,if_false,bne_iff_ne,decide_eq_true_eq]
   by_cases h0:(lastOf r s).2 = 0
   ·rw [if_neg (by simpa using h0)]
    obtain ⟨_,hfi,x,hdx,hlx⟩:=last_zero h0
    obtain ⟨f1,f2,f3⟩:=fine_parts hfi
    have hA:=last_after h0
    -- fewer warnings
    have hfew:∀ k,k ≤ s.Warnings.length→fineB r (GShown.mk s.City s.Arrived s.Found (s.Warnings.take k)) = true:=by
     intro k hk
     have hl:(s.Warnings.take k).length = k:=by simp; omega
     unfold fineB
     rw [Bool.and_eq_true,Bool.and_eq_true]
     refine ⟨?_,f2,?_⟩
     ·unfold headB at f1 ⊢
      rw [decide_eq_true_eq] at f1 ⊢
      exact ⟨f1.1,f1.2.1,f1.2.2.1,by show (s.Warnings.take k).length ≤ 20; omega⟩
     ·unfold warnB at f3 ⊢
      rw [allN_iff] at f3 ⊢
      intro i hi
      have hi:i < k:=by rw [← hl]; exact hi
      have:=f3 i (by omega)
      have e:∀ j,j < k→el (s.Warnings.take k) j = el s.Warnings j:=fun j hj=>by rw [el_lt _ _ (by omega),el_lt _ _ (by omega)]; simp
      show decide (lowOf (GShown.mk s.City s.Arrived s.Found (s.Warnings.take k)) i ≤ (el (s.Warnings.take k) i).Day ∧ (el (s.Warnings.take k) i).Day ≤ 100000 ∧ (el (s.Warnings.take k) i).Names.length ≤ 60) = true
      have hlo:lowOf (GShown.mk s.City s.Arrived s.Found (s.Warnings.take k)) i = lowOf s i:=by
       unfold lowOf
       by_cases h:i = 0
       ·simp [h]
       ·rw [if_neg h,if_neg h]
        show (el (s.Warnings.take k) (i - 1)).Day = _
        rw [e (i - 1) (by omega)]
      rw [hlo,e i hi]
      exact this
    have gk:∀ k,SmallS (GShown.mk s.City s.Arrived s.Found (s.Warnings.take k)):=fun k=>⟨g.found,by show (s.Warnings.take k).length < 1000000; simp; omega,fun y hy=>g.names y (List.mem_of_mem_take hy)⟩
    have hnone:(s.Warnings.take 0) = []:=by simp
    have key:∀ l,(l = s.Warnings ∨ (l = s.Warnings.take 1 ∧ 1 < s.Warnings.length))→mallongelaw36_RefuseOnce_j1 r s day true l = some true:=by
     intro l hl
     have hk:∃ k,k ≤ s.Warnings.length ∧ (0 < s.Warnings.length→0 < k) ∧ l = s.Warnings.take k:=by
      rcases hl with rfl | ⟨rfl,h1⟩
      ·exact ⟨s.Warnings.length,Nat.le_refl _,fun h=>h,by simp⟩
      ·exact ⟨1,by omega,fun _=>by omega,rfl⟩
     obtain ⟨k,hk1,hk2,rfl⟩:=hk
     have L1:=last_same h0 (t:=GShown.mk s.City s.Arrived s.Found (s.Warnings.take k)) rfl rfl (hfew k hk1)
     have L0:=last_same h0 (t:=GShown.mk s.City s.Arrived s.Found (s.Warnings.take 0)) rfl rfl (hfew 0 (by omega))
     have z1:(lastOf r (GShown.mk s.City s.Arrived s.Found (s.Warnings.take k))).2 = 0:=by rw [L1]; exact h0
     have z0:(lastOf r (GShown.mk s.City s.Arrived s.Found (s.Warnings.take 0))).2 = 0:=by rw [L0]; exact h0
     have g0:=gk 0
     rw [hnone] at z0 L0 g0
     obtain ⟨v1,_,_⟩:=bound_vals h0 day
     obtain ⟨u1,_,_⟩:=bound_vals z1 day
     obtain ⟨t1,_,_⟩:=bound_vals z0 day
     have hsame:(boundOf r (GShown.mk s.City s.Arrived s.Found (s.Warnings.take k)) day).1 = (boundOf r s day).1:=by
      rw [bound_first h0,bound_first z1,L1]
      have hl:(s.Warnings.take k).length = k:=by simp; omega
      have e0:0 < s.Warnings.length→el (s.Warnings.take k) 0 = el s.Warnings 0:=fun h=>by
       have:=hk2 h
       rw [el_lt _ _ (by omega),el_lt _ _ h]; simp
      show (if day < s.Arrived then (2:Int) else if s.Found = [] then 1 else if 0 < (s.Warnings.take k).length ∧ (el (s.Warnings.take k) 0).Day ≤ day then (if (el (s.Warnings.take k) 0).Day ≤ (lastOf r s).1 ∧ missOf s.Found (el (s.Warnings.take k) 0).Names = [] then 0 else 1) else if day > (lastOf r s).1 then 1 else 2) = _
      by_cases hw:0 < s.Warnings.length
      ·rw [e0 hw,hl]
       have:=hk2 hw
       simp only [hw,this,true_and]
      ·have n1:¬ (0 < (s.Warnings.take k).length ∧ (el (s.Warnings.take k) 0).Day ≤ day):=fun q=>by omega
       have n2:¬ (0 < s.Warnings.length ∧ (el s.Warnings 0).Day ≤ day):=fun q=>hw q.1
       rw [if_neg n1,if_neg n2]
     have hzero:(boundOf r (GShown.mk s.City s.Arrived s.Found []) day).1 = if day < s.Arrived then 2 else if s.Found = [] then 1 else if day > (lastOf r s).1 then 1 else 2:=by
      rw [bound_first z0,L0]
      rfl
     unfold mallongelaw36_RefuseOnce_j1
     simp only [bound_eq r s day f w g,bound_eq r _ day f w (gk k),bound_eq r _ day f w g0,last36_eq r _ f w g0,Option.bind_some,bne_iff_ne,decide_eq_true_eq,L0]
     rw [if_neg (by simpa using v1),if_neg (by simpa using u1),if_neg (by simpa using t1),if_neg (by simpa using h0),if_neg (by simpa using hsame.symm),hzero,if_pos trivial]
     by_cases c1:day > (lastOf r s).1
     ·rw [if_pos c1]
      have c2:¬ day < s.Arrived:=by omega
      by_cases c3:s.Found = [] <;> simp [c1,c2,c3]
     ·rw [if_neg c1]
      by_cases c2:day < s.Arrived
      ·rw [if_neg (by omega)]
       simp [c2]
      ·rw [if_pos (by omega)]
       by_cases c3:s.Found = []
       ·simp [c1,c2,c3]
       ·have:¬ (s.Found.length:Int) = 0:=fun e=>c3 (List.eq_nil_of_length_eq_zero (by omega))
        simp [c1,c2,c3]
    by_cases hw:(s.Warnings.length:Int) > 1
    ·rw [if_pos hw,if_pos (show sliceOk s.Warnings.length 0 1 from ⟨by omega,by omega,by omega⟩),show sliceL s.Warnings 0 1 = s.Warnings.take 1 by simp [sliceL],key _ (.inr ⟨rfl,by omega⟩)]
     rfl
    ·rw [if_neg hw,key _ (.inl rfl)]
     rfl
   ·rw [if_pos (by simpa using h0)]
theorem law36_days (r:GRealm) (s:GShown) (w:GRealm.wf r):mallongelaw36_RefuseDays r s = some true:=by
 unfold mallongelaw36_RefuseDays
 obtain ⟨x,e1,f⟩:=few_spec r
 rw [hs,e1]
 cases x with
 | false=>rfl
 | true =>
  have f:=f rfl
  obtain ⟨y,e2,g⟩:=few36_spec s
  simp only [Option.bind_some,Bool.not_true,Bool.false_eq_true,if_false,e2]
  cases y with
  | false=>rfl
  | true =>
   obtain ⟨g,g1,g2,g3⟩:=g rfl
   simp only [check36_eq r s f w g,last36_eq r s f w g,Option.bind_some,Bool.not_true,Bool.false_eq_true,if_false,bne_iff_ne,decide_eq_true_eq]
   by_cases h0:(lastOf r s).2 = 0
   ·rw [if_neg (by simpa using h0)]
    obtain ⟨_,hfi,x,hdx,hlx⟩:=last_zero h0
    obtain ⟨a1,a2,a3,a4⟩:=last_after h0
    obtain ⟨c1,c2⟩:=fine_city hfi
    have ha:=fine_arrived hfi
    obtain ⟨q1,q2,q3⟩:=f.cityL s.City.toNat (by omega)
    have hd:Cal.okDay (s.Arrived + 1):=⟨by omega,by have:=a2.2; omega⟩
    have e3:Cal.cntV (townOf (el r.Cities s.City.toNat)) (s.Arrived + 1) (lastOf r s).1 = 5:=by unfold Cal.cntV; rw [if_pos ⟨hd,a2⟩,a4]
    have e4:Cal.cntE (s.Arrived + 1) (lastOf r s).1 = 0:=by unfold Cal.cntE; rw [if_pos ⟨hd,a2⟩]
    have e5:Cal.opB (townOf (el r.Cities s.City.toNat)) (lastOf r s).1 = true:=by unfold Cal.opB; rw [if_pos a2,a3]
    have e6:Cal.dE (lastOf r s).1 = 0:=by unfold Cal.dE; rw [if_pos a2]
    rw [if_neg (by omega),if_neg (by omega),if_neg (by simpa using h0),at_eq _ _ c1 c2,wrap_id (by omega) (by omega)]
    simp only [Option.bind_some,mcalendar_Count,mcalendar_Open,gTown_eq (el r.Cities s.City.toNat) (by omega) (by omega) (by omega),Option.map_some,e3,e4,e5,e6]
    rfl
   ·rw [if_pos (by simpa using h0)]
theorem law36_names (r:GRealm) (s:GShown) (day:Int) (more:List Int) (less:Int) (w:GRealm.wf r):mallongelaw36_RefuseNames r s day more less = some true:=by
 unfold mallongelaw36_RefuseNames
 obtain ⟨x,e1,f⟩:=few_spec r
 rw [hs,e1]
 cases x with
 | false=>rfl
 | true =>
  have f:=f rfl
  obtain ⟨y,e2,g⟩:=few36_spec s
  simp only [Option.bind_some,Bool.not_true,Bool.false_eq_true,if_false,e2]
  cases y with
  | false=>rfl
  | true =>
   obtain ⟨g,g1,g2,g3⟩:=g rfl
   simp only [check36_eq r s f w g,Option.bind_some,Bool.not_true,Bool.false_eq_true,if_false,bne_iff_ne,beq_iff_eq,decide_eq_true_eq,bound_eq r s day f w g,missing36_eq r s f w g]
   by_cases h0:(lastOf r s).2 = 0
   ·rw [if_neg (by simpa using h0)]
    by_cases hm:(more.length:Int) > 50
    ·rw [if_pos hm]
    rw [if_neg hm]
    have hv:=bound_first h0 day
    by_cases ha:(boundOf r s day).1 = 0
    ·rw [if_neg (by simpa using ha)]
     -- the answer is No
     have hno:¬ day < s.Arrived ∧ s.Found ≠ [] ∧ (0 < s.Warnings.length ∧ (el s.Warnings 0).Day ≤ day) ∧ (el s.Warnings 0).Day ≤ (lastOf r s).1 ∧ missOf s.Found (el s.Warnings 0).Names = []:=by
      rw [hv] at ha
      by_cases c1:day < s.Arrived
      ·rw [if_pos c1] at ha; cases ha
      rw [if_neg c1] at ha
      by_cases c2:s.Found = []
      ·rw [if_pos c2] at ha; cases ha
      rw [if_neg c2] at ha
      by_cases c3:0 < s.Warnings.length ∧ (el s.Warnings 0).Day ≤ day
      ·rw [if_pos c3] at ha
       by_cases c4:(el s.Warnings 0).Day ≤ (lastOf r s).1 ∧ missOf s.Found (el s.Warnings 0).Names = []
       ·exact ⟨c1,c2,c3,c4⟩
       ·rw [if_neg c4] at ha; cases ha
      ·rw [if_neg c3] at ha
       by_cases c5:day > (lastOf r s).1
       ·rw [if_pos c5] at ha; cases ha
       ·rw [if_neg c5] at ha; cases ha
     obtain ⟨c1,c2,c3,c4,c5⟩:=hno
     have hn:namesOf s = (el s.Warnings 0).Names:=by unfold namesOf; rw [if_neg (by omega)]
     have hw0:¬ (s.Warnings.length:Int) = 0:=by omega
     have hsn:=g.names _ (el_mem s.Warnings 0 c3.1)
     obtain ⟨_,hfi,x,hdx,hlx⟩:=last_zero h0
     obtain ⟨f1,f2,f3⟩:=fine_parts hfi
     obtain ⟨fd1,fd2⟩:=found_iff.1 f2
     rw [if_neg hw0,if_pos h0,hn,c5]
     simp only [List.length_nil]
     rw [if_neg (show ¬ ((0:Nat):Int) > 0 by omega),if_pos (show (0 + s.Found.length) * 24 ≤ 140737488355328 by omega),if_pos (show ((([]:List (List Int)) ++ s.Found).length + 1) * 24 ≤ 140737488355328 by simp; omega)]
     simp only [List.nil_append]
     -- one found less
     have hj1:mallongelaw36_RefuseNames_j1 r s day less true = some true:=by
      unfold mallongelaw36_RefuseNames_j1
      by_cases d1:(s.Found.length:Int) < 2
      ·rw [if_pos (by simpa using d1)]
      rw [if_neg (by simpa using d1)]
      by_cases d2:less < 0
      ·rw [if_pos (by simpa using d2)]
      rw [if_neg (by simpa using d2)]
      by_cases d3:less ≥ s.Found.length
      ·rw [if_pos (by simpa using d3)]
      rw [if_neg (by simpa using d3)]
      obtain ⟨k,rfl⟩ : ∃ k:Nat,less = k:=⟨less.toNat,by omega⟩
      have hk:k < s.Found.length:=by omega
      rw [wrap_succ (show k < 9223372036854775807 by omega),show sliceL s.Found 0 (k:Int) = s.Found.take k by simp [sliceL],show sliceL s.Found ((k + 1:Nat):Int) (s.Found.length:Int) = s.Found.drop (k + 1) by simp only [sliceL,Int.toNat_natCast,List.take_length]]
      rw [if_pos (show sliceOk s.Found.length 0 (k:Int) from ⟨by omega,by omega,by omega⟩),if_pos (by simp; omega),if_pos (show sliceOk s.Found.length ((k + 1:Nat):Int) (s.Found.length:Int) from ⟨by omega,by omega,by omega⟩),if_pos (by simp; omega)]
      simp only [List.nil_append]
      have hsub:(s.Found.take k ++ s.Found.drop (k + 1)).Sublist s.Found:=by
       rw [← List.eraseIdx_eq_take_drop_succ]; exact List.eraseIdx_sublist ..
      have hlen:(s.Found.take k ++ s.Found.drop (k + 1)).length = s.Found.length - 1:=by simp; omega
      generalize hL:s.Found.take k ++ s.Found.drop (k + 1) = L at hsub hlen
      have gL:SmallS (GShown.mk s.City s.Arrived L s.Warnings):=⟨⟨by show L.length < 1000000; omega,fun y hy=>g.found.2 y (hsub.mem hy)⟩,g.warn,g.names⟩
      have hfL:fineB r (GShown.mk s.City s.Arrived L s.Warnings) = true:=by
       unfold fineB
       rw [Bool.and_eq_true,Bool.and_eq_true]
       refine ⟨?_,found_iff.2 ⟨fun y hy=>fd1 y (hsub.mem hy),fd2.sublist hsub⟩,f3⟩
       unfold headB at f1 ⊢
       rw [decide_eq_true_eq] at f1 ⊢
       exact ⟨f1.1,f1.2.1,by show L.length ≤ 40; omega,f1.2.2.2⟩
      have LL:=last_same h0 (t:=GShown.mk s.City s.Arrived L s.Warnings) rfl rfl hfL
      have z:(lastOf r (GShown.mk s.City s.Arrived L s.Warnings)).2 = 0:=by rw [LL]; exact h0
      have hb:=bound_first z day
      rw [LL] at hb
      have hne:L ≠ []:=fun e=>by rw [e] at hlen; simp at hlen; omega
      have hmi:missOf L (el s.Warnings 0).Names = []:=miss_nil.2 fun y hy=>miss_nil.1 c5 y (hsub.mem hy)
      have hb' : (boundOf r (GShown.mk s.City s.Arrived L s.Warnings) day).1 = 0:=by
       rw [hb]
       show (if day < s.Arrived then (2:Int) else if L = [] then 1 else if 0 < s.Warnings.length ∧ (el s.Warnings 0).Day ≤ day then (if (el s.Warnings 0).Day ≤ (lastOf r s).1 ∧ missOf L (el s.Warnings 0).Names = [] then 0 else 1) else if day > (lastOf r s).1 then 1 else 2) = 0
       rw [if_neg c1,if_neg hne,if_pos c3,if_pos ⟨c4,hmi⟩]
      simp only [bound_eq r _ day f w gL,Option.bind_some,hb',(bound_vals z day).1]
      rfl
     have hj2:mallongelaw36_RefuseNames_j2 r s day more less true = some true:=by
      unfold mallongelaw36_RefuseNames_j2
      have hN:=hsn.1
      rw [if_pos (show (0 + s.Warnings.length) * 32 ≤ 140737488355328 by omega),at_zero _ c3.1]
      simp only [Option.bind_some,List.nil_append]
      rw [if_pos (by omega),if_pos (by omega),if_pos ⟨Nat.le_refl _,c3.1⟩,List.getElem?_eq_getElem c3.1]
      simp only [Option.bind_some,hj1,beq_iff_eq,bne_iff_ne]
      generalize hS:GShown.mk s.City s.Arrived s.Found (s.Warnings.set 0 (GWarning.mk s.Warnings[0].Day ((el s.Warnings 0).Names ++ [more]))) = S
      have hlw:S.Warnings.length = s.Warnings.length:=by subst hS; simp
      have hw00:el S.Warnings 0 = GWarning.mk s.Warnings[0].Day ((el s.Warnings 0).Names ++ [more]):=by
       have hl0:0 < S.Warnings.length:=by omega
       rw [el_lt _ _ hl0]; subst hS; simp
      have gS:SmallS S:=by
       have hlw' : S.Warnings.length < 1000000:=by omega
       subst hS
       refine ⟨g.found,hlw',fun y hy=>?_⟩
       rcases List.mem_or_eq_of_mem_set hy with q | q
       ·exact g.names y q
       ·subst q
        refine ⟨by have:=g3 0 c3.1; show ((el s.Warnings 0).Names ++ [more]).length < 1000000; simp; omega,fun z hz=>?_⟩
        rcases List.mem_append.1 hz with q | q
        ·exact hsn.2 z q
        ·simp at q; subst q; omega
      rw [bound_eq r S day f w gS]
      simp only [Option.bind_some]
      by_cases z:(boundOf r S day).2 = 0
      ·have z' : (lastOf r S).2 = 0:=by
        unfold boundOf at z
        by_cases q:(lastOf r S).2 = 0
        ·exact q
        ·rw [if_neg q] at z; exact z
       have hfS:=(last_zero z').2.1
       have LL:=last_same h0 (t:=S) (by subst hS; rfl) (by subst hS; rfl) hfS
       have hb:=bound_first z' day
       have hmi:missOf S.Found (el S.Warnings 0).Names = []:=by
        rw [hw00]
        refine miss_nil.2 fun y hy=>List.mem_append_left _ (miss_nil.1 c5 y ?_)
        subst hS; exact hy
       have hday:(el S.Warnings 0).Day = (el s.Warnings 0).Day:=by rw [hw00,el_lt _ _ c3.1]
       have hA' : S.Arrived = s.Arrived:=by subst hS; rfl
       have hF' : S.Found = s.Found:=by subst hS; rfl
       rw [LL,hlw,hday,hA'] at hb
       have hb' : (boundOf r S day).1 = 0:=by
        rw [hb,if_neg c1,if_neg (by rw [hF']; exact c2),if_pos c3,if_pos ⟨c4,hmi⟩]
       rw [if_pos z,if_neg (by simpa using hb')]
      ·rw [if_neg z]
     generalize hL:s.Found ++ [more] = L
     have gL:SmallS (GShown.mk s.City s.Arrived L s.Warnings):=by
      subst hL
      refine ⟨⟨by show (s.Found ++ [more]).length < 1000000; simp; omega,fun y hy=>?_⟩,g.warn,g.names⟩
      rcases List.mem_append.1 hy with q | q
      ·exact g.found.2 y q
      ·simp at q; subst q; omega
     rw [bound_eq r _ day f w gL,missing36_eq r _ f w gL,at_zero _ c3.1]
     simp only [Option.bind_some,ref_has_eq _ _ hsn,hj2]
     by_cases z:(boundOf r (GShown.mk s.City s.Arrived L s.Warnings) day).2 = 0
     ·rw [if_pos z]
      have z' : (lastOf r (GShown.mk s.City s.Arrived L s.Warnings)).2 = 0:=by
       unfold boundOf at z
       by_cases q:(lastOf r (GShown.mk s.City s.Arrived L s.Warnings)).2 = 0
       ·exact q
       ·rw [if_neg q] at z; exact z
      by_cases hin:more ∈ (el s.Warnings 0).Names
      ·rw [decide_eq_true hin]; rfl
      ·rw [decide_eq_false hin]
       have hmis:missOf L (el s.Warnings 0).Names = [more]:=by
        subst hL
        unfold missOf at c5 ⊢
        rw [List.filter_append,c5]
        simp [hin]
       have hb:=bound_first z' day
       have hne:L ≠ []:=by subst hL; simp
       have hb' : (boundOf r (GShown.mk s.City s.Arrived L s.Warnings) day).1 = 1:=by
        rw [hb]
        show (if day < s.Arrived then (2:Int) else if L = [] then 1 else if 0 < s.Warnings.length ∧ (el s.Warnings 0).Day ≤ day then (if (el s.Warnings 0).Day ≤ (lastOf r (GShown.mk s.City s.Arrived L s.Warnings)).1 ∧ missOf L (el s.Warnings 0).Names = [] then 0 else 1) else if day > (lastOf r (GShown.mk s.City s.Arrived L s.Warnings)).1 then 1 else 2) = 1
        have n1:¬ ((el s.Warnings 0).Day ≤ (lastOf r (GShown.mk s.City s.Arrived L s.Warnings)).1 ∧ missOf L (el s.Warnings 0).Names = []):=fun q=>by rw [hmis] at q; cases q.2
        rw [if_neg c1,if_neg hne,if_pos c3,if_neg n1]
       have hn' : namesOf (GShown.mk s.City s.Arrived L s.Warnings) = (el s.Warnings 0).Names:=by
        unfold namesOf
        show (if s.Warnings.length = 0 then _ else _) = _
        rw [if_neg (by omega)]
       rw [if_pos z',hb',hn',hmis]
       rfl
     ·rw [if_neg z]
    ·rw [if_pos (by simpa using ha),if_pos trivial,if_pos (by simpa using ha)]
   ·rw [if_pos (by simpa using h0)]
end
end Go.Proofs.Ytjllkddmkdajcaa
