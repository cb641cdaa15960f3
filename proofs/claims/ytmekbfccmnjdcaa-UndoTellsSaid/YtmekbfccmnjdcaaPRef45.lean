/- Layer 45 (undo): the reference says which leans are right, and what stands. -/
import Derived.Test.YtmekbfccmnjdcaaPLaw45b
set_option linter.unusedVariables false
set_option linter.unusedSimpArgs false
namespace Go.Proofs.Ytmekbfccmnjdcaa
open Go.RowKit Vm
theorem get45 {α:Type} [Inhabited α] (l:List α) (i:Nat) (h:i < l.length):l[i]? = some (el l i):=by rw [List.getElem?_eq_getElem h,el_lt l i h]
inductive Rc45 (E:Nat→Nat→Prop) (a:Nat):Nat→Prop
 | refl:Rc45 E a a
 | tail {b c:Nat}:Rc45 E a b→E b c→Rc45 E a c
theorem Rc45.trans {E:Nat→Nat→Prop} {a b c:Nat} (h:Rc45 E a b) (k:Rc45 E b c):Rc45 E a c:=by
 induction k with
 | refl=>exact h
 | tail _ e ih=>exact ih.tail e
theorem refRight_eq (l:List GLean):mallongeref45_Right l = some (decide (rightL l)):=by
 unfold mallongeref45_Right
 by_cases c:(l.length:Int) > 300
 ·rw [if_pos (decide_eq_true c),decide_eq_false fun q=>by have:=q.1; omega]
 rw [if_neg (by simpa using c)]
 have hl:l.length ≤ 300:=by omega
 have h2:∀ (i:Nat),i < l.length→mallongeref45_Right_l1 l (i:Int) 0 = some (if allN (fun j=>decide (rightS (el (el l i).Supports j) i)) (min (el l i).Supports.length 30) = true then .inl () else .inr ()):=fun i hi=>by
  have:=iter_all? (step:=fun w=>mallongeref45_Right_l1_s l (i:Int) w) (fun j:Nat=>(j:Int)) (min (el l i).Supports.length 30) (fun j=>decide (rightS (el (el l i).Supports j) i)) () (fun j hj=>by
   have hj1:j < (el l i).Supports.length:=by omega
   unfold mallongeref45_Right_l1_s
   rw [at_el l i hi,Option.bind_some,if_pos (by simp; omega),if_pos (by simp; omega),Option.bind_some,at_el _ j hj1,Option.bind_some,wrap_succ (by omega)]
   by_cases c1:(el (el l i).Supports j).length = 0
   ·rw [if_pos (by rw [c1]; rfl),if_neg (by simp only [decide_eq_true_eq]; intro q; have:=q.1; omega)]
   rw [if_neg (by simpa using c1)]
   by_cases c2:((el (el l i).Supports j).length:Int) > 20
   ·rw [if_pos (decide_eq_true c2),if_neg (by simp only [decide_eq_true_eq]; intro q; have:=q.1; omega)]
   rw [if_neg (by simpa using c2),Option.bind_some,at_el _ j hj1,Option.bind_some,refRising_eq _ _ (by omega),Option.bind_some]
   by_cases c3:risingP (el (el l i).Supports j) (i:Int)
   ·rw [decide_eq_true c3,if_neg (by decide),if_pos (decide_eq_true ⟨⟨by omega,by omega⟩,c3⟩)]
   ·rw [decide_eq_false c3,if_pos (by decide),if_neg (by simp only [decide_eq_true_eq]; intro q; exact c3 q.2)]) (by
   unfold mallongeref45_Right_l1_s
   rw [at_el l i hi,Option.bind_some]
   by_cases c1:(el l i).Supports.length ≤ 30
   ·rw [if_neg (by simp; omega)]
   ·rw [if_pos (by simp; omega),if_neg (by simp; omega)])
  exact this
 have h:=iter_all? (step:=fun w=>mallongeref45_Right_l2_s l w) (fun i:Nat=>(i:Int)) l.length (fun i=>decide (rightX (el l i) i)) () (fun i hi=>by
  unfold mallongeref45_Right_l2_s
  rw [if_pos (by simp; omega),h2 i hi,Option.bind_some]
  cases c0:allN (fun j=>decide (rightS (el (el l i).Supports j) i)) (min (el l i).Supports.length 30) with
  | false =>
   rw [if_neg (by simp)]
   have:¬ rightX (el l i) i:=fun q=>by
    have h3:allN (fun j=>decide (rightS (el (el l i).Supports j) i)) (min (el l i).Supports.length 30) = true:=allN_iff.2 fun j hj=>decide_eq_true (q.2 j (by omega))
    rw [c0] at h3; cases h3
   rw [decide_eq_false this]
   rfl
  | true =>
   rw [if_pos rfl]
   simp only [Sum.elim_inl]
   rw [at_el l i hi,Option.bind_some,wrap_succ (by omega)]
   by_cases c1:((el l i).Supports.length:Int) > 20
   ·rw [if_pos (decide_eq_true c1),if_neg (by simp only [decide_eq_true_eq]; intro q; have:=q.1; omega)]
   rw [if_neg (by simpa using c1),if_pos (decide_eq_true ⟨by omega,fun j hj=>of_decide_eq_true (allN_iff.1 c0 j (by omega))⟩)]) (by
  unfold mallongeref45_Right_l2_s
  rw [if_neg (by simp)])
 unfold mallongeref45_Right_l2
 rw [show ((0:Nat):Int) = 0 from rfl] at h
 rw [h,Option.bind_some]
 have:allN (fun i=>decide (rightX (el l i) i)) l.length = decide (rightL l):=by
  rw [Bool.eq_iff_iff,allN_iff,decide_eq_true_eq]
  exact ⟨fun q=>⟨hl,fun j hj=>of_decide_eq_true (q j hj)⟩,fun q j hj=>decide_eq_true (q.2 j hj)⟩
 rw [this]
 cases decide (rightL l) <;> rfl
theorem stand_post {l:List GLean} (h:rightL l) (sk:List Bool) {F:Nat→Bool} (hF:∀ i,i < l.length→F i = true→el sk i = false ∧ heldF (el l i) F = true):∀ i,i < l.length→F i = true→stand l sk i = true:=by
 intro i
 induction i using Nat.strongRecOn with
 | _ i ih =>
  intro hi hf
  obtain ⟨q1,q2⟩:=hF i hi hf
  rw [stand_eq h sk hi,q1]
  show (!false && _) = true
  rw [Bool.not_false,Bool.true_and]
  exact heldF_mono (fun s hs k hk hfk=>by have:=right_mem h hi hs hk; exact ih k.toNat (by omega) (by omega) hfk) q2
def oneRound (l:List GLean) (m:List Bool):List Bool:=ints l.length fun i=>el m i && heldF (el l i) (el m)
theorem pass_eq {l:List GLean} (h:rightL l) (p8:Int) (m:List Bool) (hm:m.length = l.length):∃ b,mallongeref45_Standing_l2 l p8 true (IntKind.wrap .i64 ((l.length:Int) - 1)) m = some (b,oneRound l m) ∧ (b = true→∀ i,i < l.length→el m i = true→heldF (el l i) (el m) = true):=by
 have hn:=h.1
 have ew:IntKind.wrap .i64 ((l.length:Int) - 1) = (l.length:Int) - 1:=wrap_id (by omega) (by omega)
 unfold mallongeref45_Standing_l2
 rw [ew]
 obtain ⟨x,h1,h2,h3⟩:=iter_meas (step:=fun (w:Bool × Int × List Bool)=>mallongeref45_Standing_l2_s l p8 w.1 w.2.1 w.2.2)
  (fun s=>∃ k:Nat,s.2.1 = (k:Int) - 1 ∧ k ≤ l.length ∧ s.2.2.length = l.length ∧ (∀ j,j < l.length→el s.2.2 j = if j < k then el m j else (el m j && heldF (el l j) (el m))) ∧ (s.1 = true→∀ j,k ≤ j→j < l.length→el m j = true→heldF (el l j) (el m) = true))
  (fun s=>(s.2.1 + 1).toNat) (fun x=>x.2 = oneRound l m ∧ (x.1 = true→∀ i,i < l.length→el m i = true→heldF (el l i) (el m) = true))
  (fun s ⟨k,q1,q2,q3,q4,q5⟩=>by
   obtain ⟨b,p,a⟩:=s
   simp only at q1 q2 q3 q4 q5 ⊢
   subst q1
   simp only [mallongeref45_Standing_l2_s]
   cases k with
   | zero =>
    right
    rw [if_neg (by simp)]
    refine ⟨_,rfl,extB (by rw [q3,oneRound,ints_len]) fun i hi=>?_,fun hb i hi=>q5 hb i (by omega) hi⟩
    rw [q3] at hi
    unfold oneRound
    rw [ints_el hi,q4 i hi,if_neg (by omega)]
   | succ i =>
    left
    have hi:i < l.length:=by omega
    have ei:((i + 1:Nat):Int) - 1 = (i:Int):=by omega
    have ew:IntKind.wrap .i64 ((i:Int) - 1) = (i:Int) - 1:=wrap_id (by omega) (by omega)
    rw [ei,if_pos (by simp),if_pos ⟨by omega,by rw [Int.toNat_natCast,q3]; exact hi⟩,Int.toNat_natCast,get45 _ _ (by rw [q3]; exact hi),Option.bind_some,ew]
    have e1:el a i = el m i:=by rw [q4 i hi,if_pos (by omega)]
    have hcg:heldF (el l i) (el a) = heldF (el l i) (el m):=heldF_congr fun s hs k hk=>by have:=right_mem h hi hs hk; rw [q4 _ (by omega),if_pos (by omega)]
    rw [e1]
    cases c:el m i with
    | false =>
     rw [if_neg (by decide)]
     refine ⟨_,rfl,⟨i,rfl,by omega,q3,fun j hj=>?_,fun hb j hj hj2 hmj=>?_⟩,by simp only; omega⟩
     ·show el a j = _
      rw [q4 j hj]
      by_cases e:j = i
      ·subst e; rw [if_pos (by omega),if_neg (by omega),c]; rfl
      ·by_cases e2:j < i
       ·rw [if_pos (by omega),if_pos e2]
       ·rw [if_neg (by omega),if_neg e2]
     ·by_cases e:j = i
      ·subst e; rw [c] at hmj; cases hmj
      ·exact q5 hb j (by omega) hj2 hmj
    | true =>
     rw [if_pos rfl,at_el l i hi,Option.bind_some,refHeld_eq h hi a q3,Option.bind_some,hcg]
     cases c2:heldF (el l i) (el m) with
     | false =>
      rw [if_pos (by decide),if_pos ⟨by omega,by rw [q3]; exact hi⟩,Option.bind_some]
      refine ⟨_,rfl,⟨i,rfl,by omega,by simp only; rw [List.length_set]; exact q3,fun j hj=>?_,fun hb=>by cases hb⟩,by simp only; omega⟩
      show el (a.set i false) j = _
      rw [el_setB _ _ _ _ (by rw [q3]; exact hi)]
      by_cases e:j = i
      ·subst e; rw [if_pos rfl,if_neg (by omega),c2,Bool.and_false]
      ·rw [if_neg e,q4 j hj]
       by_cases e2:j < i
       ·rw [if_pos (by omega),if_pos e2]
       ·rw [if_neg (by omega),if_neg e2]
     | true =>
      rw [if_neg (by decide)]
      refine ⟨_,rfl,⟨i,rfl,by omega,q3,fun j hj=>?_,fun hb j hj hj2 hmj=>?_⟩,by simp only; omega⟩
      ·show el a j = _
       rw [q4 j hj]
       by_cases e:j = i
       ·subst e; rw [if_pos (by omega),if_neg (by omega),c2,Bool.and_true]
       ·by_cases e2:j < i
        ·rw [if_pos (by omega),if_pos e2]
        ·rw [if_neg (by omega),if_neg e2]
      ·by_cases e:j = i
       ·subst e; exact c2
       ·exact q5 hb j (by omega) hj2 hmj)
  (true,(l.length:Int) - 1,m) ⟨l.length,rfl,Nat.le_refl _,hm,fun j hj=>by rw [if_pos hj],fun _ j hj hj2=>absurd hj2 (by omega)⟩
 obtain ⟨b,y⟩:=x
 simp only at h2 h3
 subst h2
 exact ⟨b,h1,h3⟩
theorem rounds_eq {l:List GLean} (h:rightL l) {sk:List Bool} (m:List Bool) (hm:m.length = l.length) (hm2:∀ i,i < l.length→el m i = !el sk i):mallongeref45_Standing_l3 l 0 m = some (.inl (ints l.length (stand l sk))) ∨ mallongeref45_Standing_l3 l 0 m = some (.inr (ints l.length (stand l sk))):=by
 have hn:=h.1
 have hst:∀ i,i < l.length→stand l sk i = true→el sk i = false ∧ heldF (el l i) (stand l sk) = true:=fun i hi q=>by
  rw [stand_eq h sk hi,Bool.and_eq_true] at q
  exact ⟨by simpa using q.1,q.2⟩
 unfold mallongeref45_Standing_l3
 obtain ⟨x,h1,h2⟩:=iter_for (step:=fun (w:Int × List Bool)=>mallongeref45_Standing_l3_s l w.1 w.2) (fun (k:Nat) (a:List Bool)=>((k:Int),a)) l.length
  (fun k a=>a.length = l.length ∧ (∀ i,i < l.length→stand l sk i = true→el a i = true) ∧ (∀ i,i < l.length→el a i = true→el sk i = false) ∧ ∀ i,i < k→el a i = stand l sk i)
  (fun x=>x = .inl (ints l.length (stand l sk)) ∨ x = .inr (ints l.length (stand l sk)))
  (fun k a hk ⟨q1,q2,q3,q4⟩=>by
   simp only [mallongeref45_Standing_l3_s]
   obtain ⟨b,g1,g2⟩:=pass_eq h (k:Int) a q1
   rw [if_pos (by simp; omega),g1,Option.bind_some]
   cases b with
   | true =>
    right
    rw [if_pos rfl]
    refine ⟨_,rfl,.inr ?_⟩
    congr 1
    refine extB (by rw [oneRound,ints_len,ints_len]) fun i hi=>?_
    rw [oneRound,ints_len] at hi
    unfold oneRound
    rw [ints_el hi,ints_el hi]
    have hpost:=stand_post h sk (F:=el a) (fun i hi hf=>⟨q3 i hi hf,g2 rfl i hi hf⟩) i hi
    cases c:el a i with
    | true=>rw [g2 rfl i hi c,hpost c]; rfl
    | false =>
     cases c2:stand l sk i with
     | true=>rw [q2 i hi c2] at c; cases c
     | false=>rfl
   | false =>
    left
    rw [if_neg (by simp),wrap_succ (by omega)]
    refine ⟨_,rfl,by rw [oneRound,ints_len],fun i hi hs=>?_,fun i hi hf=>?_,fun i hi=>?_⟩
    ·unfold oneRound
     rw [ints_el hi,q2 i hi hs,Bool.true_and]
     exact heldF_mono (fun s hs k hk hf=>by have:=right_mem h hi hs hk; exact q2 _ (by omega) hf) (hst i hi hs).2
    ·unfold oneRound at hf
     rw [ints_el hi,Bool.and_eq_true] at hf
     exact q3 i hi hf.1
    ·have hi2:i < l.length:=by omega
     have hcg:heldF (el l i) (el a) = heldF (el l i) (stand l sk):=heldF_congr fun s hs k hk=>by have:=right_mem h hi2 hs hk; exact q4 _ (by omega)
     unfold oneRound
     rw [ints_el hi2,hcg,Bool.eq_iff_iff,Bool.and_eq_true]
     exact ⟨fun ⟨z1,z2⟩=>by rw [stand_eq h sk hi2,q3 i hi2 z1,z2]; rfl,fun z=>⟨q2 i hi2 z,(hst i hi2 z).2⟩⟩)
  (fun a ⟨q1,q2,q3,q4⟩=>⟨_,by
   simp only [mallongeref45_Standing_l3_s]
   rw [if_neg (by simp)],.inl (by
    congr 1
    exact extB (by rw [q1,ints_len]) fun i hi=>by rw [q1] at hi; rw [ints_el hi,q4 i hi])⟩) m ⟨hm,fun i hi hs=>by rw [hm2 i hi,(hst i hi hs).1]; rfl,fun i hi hf=>by rw [hm2 i hi] at hf; simpa using hf,fun i hi=>absurd hi (by omega)⟩
 rw [show ((0:Nat):Int) = 0 from rfl] at h1
 rcases h2 with rfl | rfl
 ·exact .inl h1
 ·exact .inr h1
theorem begin_eq {l:List GLean} {sk:List Bool} (hn:l.length ≤ 300) (hl:sk.length = l.length):∃ m,mallongeref45_Standing_l1 l sk 0 (List.replicate l.length false) = some m ∧ m.length = l.length ∧ ∀ i,i < l.length→el m i = !el sk i:=by
 unfold mallongeref45_Standing_l1
 obtain ⟨x,h1,h2⟩:=iter_for (step:=fun (w:Int × List Bool)=>mallongeref45_Standing_l1_s l sk w.1 w.2) (fun (k:Nat) (a:List Bool)=>((k:Int),a)) l.length
  (fun k a=>a.length = l.length ∧ ∀ i,i < k→el a i = !el sk i) (fun x=>x.length = l.length ∧ ∀ i,i < l.length→el x i = !el sk i)
  (fun k a hk ⟨q1,q2⟩=>by
   simp only [mallongeref45_Standing_l1_s]
   rw [if_pos (by simp; omega),at_el sk k (by omega),Option.bind_some,if_pos ⟨by omega,by rw [Int.toNat_natCast,q1]; exact hk⟩,Int.toNat_natCast,get45 _ _ (by rw [q1]; exact hk),Option.bind_some,wrap_succ (by omega)]
   refine .inl ⟨_,rfl,by rw [List.length_set]; exact q1,fun i hi=>?_⟩
   rw [el_setB _ _ _ _ (by rw [q1]; exact hk)]
   by_cases e:i = k
   ·rw [if_pos e,e]
   ·rw [if_neg e,q2 i (by omega)])
  (fun a q=>⟨_,by
   simp only [mallongeref45_Standing_l1_s]
   rw [if_neg (by simp)],q⟩) (List.replicate l.length false) ⟨by simp,fun i hi=>absurd hi (by omega)⟩
 rw [show ((0:Nat):Int) = 0 from rfl] at h1
 exact ⟨x,h1,h2.1,h2.2⟩
theorem refStanding_eq (l:List GLean) (sk:List Bool):mallongeref45_Standing l sk = some (if rightL l ∧ sk.length = l.length then ints l.length (stand l sk) else []):=by
 unfold mallongeref45_Standing
 rw [refRight_eq,Option.bind_some]
 by_cases c1:rightL l
 case neg=>rw [decide_eq_false c1,if_pos (by decide),if_neg fun q=>c1 q.1]
 rw [decide_eq_true c1,if_neg (by decide)]
 by_cases c2:sk.length = l.length
 case neg=>rw [if_pos (by simp; omega),if_neg fun q=>c2 q.2]
 have hn:=c1.1
 rw [if_neg (by rw [c2]; simp),if_pos (by omega),Int.toNat_natCast,if_pos ⟨c1,c2⟩]
 obtain ⟨m,h1,h2,h3⟩:=begin_eq hn c2
 rw [h1,Option.bind_some]
 rcases rounds_eq c1 m h2 h3 with q | q
 ·rw [q]; rfl
 ·rw [q]; rfl
end Go.Proofs.Ytmekbfccmnjdcaa
