/- Clearing: what Right, Total, Balanced and Proves say. -/
import Derived.Test.YtgipgbhlibafhaaPClear10
set_option linter.unusedVariables false
set_option linter.unusedSimpArgs false
namespace Go.Proofs.Ytgipgbhlibafhaa
open Go.RowKit Vm
def dueOk (n:Int) (d:GDue):Prop:=(0 ≤ d.From ∧ d.From < n) ∧ (0 ≤ d.To ∧ d.To < n) ∧ d.From ≠ d.To ∧ 1 ≤ d.Sum ∧ d.Sum ≤ 1099511627776
instance (n:Int) (d:GDue):Decidable (dueOk n d):=by unfold dueOk; exact inferInstance
def rightD (n:Int) (dues:List GDue):Bool:=decide (0 ≤ n ∧ n ≤ 40) && decide (dues.length ≤ 100) && allN (fun i=>decide (dueOk n (el dues i))) dues.length
theorem rightD_iff {n:Int} {dues:List GDue}:rightD n dues = true ↔ ∃ m:Nat,n = m ∧ OkD m dues:=by
 unfold rightD
 rw [Bool.and_eq_true,Bool.and_eq_true,decide_eq_true_eq,decide_eq_true_eq,allN_iff]
 constructor
 ·rintro ⟨⟨⟨h1,h2⟩,h3⟩,h4⟩
  refine ⟨n.toNat,by omega,⟨by omega,h3,fun i hi=>?_⟩⟩
  have:=of_decide_eq_true (h4 i hi)
  unfold dueOk at this
  omega
 ·rintro ⟨m,rfl,h⟩
  refine ⟨⟨⟨by omega,by have:=h.nn; omega⟩,h.len⟩,fun i hi=>decide_eq_true (h.each i hi)⟩
theorem right_m (n:Int) (dues:List GDue):mclearing_Right n dues = some (rightD n dues):=by
 unfold mclearing_Right rightD
 by_cases h1:0 ≤ n ∧ n ≤ 40
 ·have c1:¬ decide (n < 0) = true:=by simp; omega
  have c2:¬ decide (n > 40) = true:=by simp; omega
  rw [if_neg c1,if_neg c2,decide_eq_true h1]
  by_cases h2:dues.length ≤ 100
  ·have c3:¬ decide ((dues.length:Int) > 100) = true:=by simp; omega
   rw [if_neg c3,decide_eq_true h2]
   have key:mclearing_Right_l1 n dues 0 = some (if allN (fun i=>decide (dueOk n (el dues i))) dues.length = true then .inl () else .inr ()):=by
    unfold mclearing_Right_l1
    refine iter_all? (step:=fun w=>mclearing_Right_l1_s n dues w) (fun i:Nat=>(i:Int)) dues.length (fun i=>decide (dueOk n (el dues i))) () ?_ ?_
    ·intro i hi
     show mclearing_Right_l1_s n dues i = _
     unfold mclearing_Right_l1_s
     have w3:IntKind.wrap .i64 ((i:Int) + 1) = ((i + 1:Nat):Int):=wrap_succ (by omega)
     have c0:decide ((i:Int) < (dues.length:Int)) = true:=by simpa using hi
     simp only [if_pos c0,atI_el dues i hi,Option.bind_some,w3]
     simp only [decide_eq_true_eq,beq_iff_eq]
     generalize el dues i = d
     by_cases a1:d.From < 0
     ·have hno:¬ dueOk n d:=by unfold dueOk; omega
      rw [if_pos a1,if_neg hno]
     rw [if_neg a1]
     by_cases a2:d.From ≥ n
     ·have hno:¬ dueOk n d:=by unfold dueOk; omega
      rw [if_pos a2,if_neg hno]
     rw [if_neg a2]
     by_cases a3:d.To < 0
     ·have hno:¬ dueOk n d:=by unfold dueOk; omega
      rw [if_pos a3,if_neg hno]
     rw [if_neg a3]
     by_cases a4:d.To ≥ n
     ·have hno:¬ dueOk n d:=by unfold dueOk; omega
      rw [if_pos a4,if_neg hno]
     rw [if_neg a4]
     by_cases a5:d.From = d.To
     ·have hno:¬ dueOk n d:=by unfold dueOk; omega
      rw [if_pos a5,if_neg hno]
     rw [if_neg a5]
     by_cases a6:d.Sum < 1
     ·have hno:¬ dueOk n d:=by unfold dueOk; omega
      rw [if_pos a6,if_neg hno]
     rw [if_neg a6]
     by_cases a7:d.Sum > 1099511627776
     ·have hno:¬ dueOk n d:=by unfold dueOk; omega
      rw [if_pos a7,if_neg hno]
     rw [if_neg a7,if_pos (show dueOk n d by unfold dueOk; omega)]
    ·show mclearing_Right_l1_s n dues dues.length = _
     unfold mclearing_Right_l1_s
     rw [if_neg (by simp)]
   rw [key,Option.bind_some]
   cases allN (fun i=>decide (dueOk n (el dues i))) dues.length <;> rfl
  ·have c3:decide ((dues.length:Int) > 100) = true:=by simp; omega
   rw [if_pos c3,decide_eq_false h2]; rfl
 ·rw [decide_eq_false h1]
  by_cases h2:n < 0
  ·rw [if_pos (decide_eq_true h2)]; rfl
  ·have c1:¬ decide (n < 0) = true:=by simpa using h2
   have c2:decide (n > 40) = true:=by simp; omega
   rw [if_neg c1,if_pos c2]; rfl
theorem rRight_m (n:Int) (dues:List GDue):mallongeref42_Right n dues = some (rightD n dues):=by
 unfold mallongeref42_Right
 have key:mallongeref42_Right_l1 n dues 0 = some (if allN (fun i=>decide (dueOk n (el dues i))) (min dues.length 101) = true then .inl () else .inr ()):=by
  unfold mallongeref42_Right_l1
  refine iter_all? (step:=fun w=>mallongeref42_Right_l1_s n dues w) (fun i:Nat=>(i:Int)) (min dues.length 101) (fun i=>decide (dueOk n (el dues i))) () ?_ ?_
  ·intro i hi
   show mallongeref42_Right_l1_s n dues i = _
   unfold mallongeref42_Right_l1_s
   have w3:IntKind.wrap .i64 ((i:Int) + 1) = ((i + 1:Nat):Int):=wrap_succ (by omega)
   have c0:decide ((i:Int) < (dues.length:Int)) = true:=by simp; omega
   have c1:decide ((i:Int) ≤ 100) = true:=by simp; omega
   simp only [if_pos c0,if_pos c1,atI_el dues i (by omega),Option.bind_some,w3]
   simp only [decide_eq_true_eq,beq_iff_eq]
   generalize el dues i = d
   by_cases a1:d.From < 0
   ·have hno:¬ dueOk n d:=by unfold dueOk; omega
    rw [if_pos a1,if_neg hno]
   rw [if_neg a1]
   by_cases a3:d.To < 0
   ·have hno:¬ dueOk n d:=by unfold dueOk; omega
    rw [if_pos a3,if_neg hno]
   rw [if_neg a3]
   by_cases a2:d.From ≥ n
   ·have hno:¬ dueOk n d:=by unfold dueOk; omega
    rw [if_pos a2,if_neg hno]
   rw [if_neg a2]
   by_cases a4:d.To ≥ n
   ·have hno:¬ dueOk n d:=by unfold dueOk; omega
    rw [if_pos a4,if_neg hno]
   rw [if_neg a4]
   by_cases a5:d.From = d.To
   ·have hno:¬ dueOk n d:=by unfold dueOk; omega
    rw [if_pos a5,if_neg hno]
   rw [if_neg a5]
   by_cases a6:d.Sum < 1
   ·have hno:¬ dueOk n d:=by unfold dueOk; omega
    rw [if_pos a6,if_neg hno]
   rw [if_neg a6]
   by_cases a7:d.Sum > 1099511627776
   ·have hno:¬ dueOk n d:=by unfold dueOk; omega
    rw [if_pos a7,if_neg hno]
   rw [if_neg a7,if_pos (show dueOk n d by unfold dueOk; omega)]
  ·show mallongeref42_Right_l1_s n dues ((min dues.length 101:Nat):Int) = _
   unfold mallongeref42_Right_l1_s
   by_cases h2:dues.length ≤ 101
   ·rw [if_neg (by simp; omega)]
   ·have c0:decide (((min dues.length 101:Nat):Int) < (dues.length:Int)) = true:=by simp; omega
    have c1:¬ decide (((min dues.length 101:Nat):Int) ≤ 100) = true:=by simp; omega
    rw [if_pos c0,if_neg c1]
 rw [key,Option.bind_some]
 unfold rightD
 by_cases h2:dues.length ≤ 100
 ·rw [Nat.min_eq_left (by omega),decide_eq_true h2]
  have d2:decide ((dues.length:Int) ≤ 100) = true:=by simp; omega
  rw [d2]
  cases allN (fun i=>decide (dueOk n (el dues i))) dues.length with
  | false=>simp
  | true =>
   rw [if_pos rfl]
   simp only [Sum.elim_inl,decide_eq_true_eq]
   by_cases a1:n ≥ 0
   ·rw [if_pos a1]
    by_cases a2:n ≤ 40
    ·rw [if_pos a2,decide_eq_true (show 0 ≤ n ∧ n ≤ 40 by omega)]; rfl
    ·rw [if_neg a2,decide_eq_false (show ¬ (0 ≤ n ∧ n ≤ 40) by omega)]; rfl
   ·rw [if_neg a1,decide_eq_false (show ¬ (0 ≤ n ∧ n ≤ 40) by omega)]; rfl
 ·have d2:decide ((dues.length:Int) ≤ 100) = false:=by simp; omega
  rw [decide_eq_false h2,d2]
  simp only [Bool.and_false,Bool.false_and]
  cases allN (fun i=>decide (dueOk n (el dues i))) (min dues.length 101) with
  | false=>rfl
  | true=>rw [if_pos rfl]; simp only [Sum.elim_inl]; split <;> (try split) <;> rfl
def sumOk (x:List Int):Bool:=allN (fun i=>decide (0 ≤ el x i ∧ el x i ≤ 1099511627776)) x.length
def totalL (x:List Int):Int:=if x.length ≤ 100 ∧ sumOk x = true then sumN (el x) x.length else 0
theorem sumN_bound {g:Nat→Int} {B:Int} (hB:0 ≤ B):∀ k,(∀ i,i < k→0 ≤ g i ∧ g i ≤ B)→0 ≤ sumN g k ∧ sumN g k ≤ (k:Int) * B
 | 0,_=>by simp [sumN]
 | k + 1,h=>by
  have:=sumN_bound hB k fun i hi=>h i (by omega)
  have hk:=h k (by omega)
  show 0 ≤ sumN g k + g k ∧ sumN g k + g k ≤ ((k + 1:Nat):Int) * B
  rw [show ((k + 1:Nat):Int) = (k:Int) + 1 by omega,Int.add_mul,Int.one_mul]
  omega
theorem total_m (x:List Int):mclearing_Total x = some (totalL x):=by
 unfold mclearing_Total totalL
 by_cases h2:x.length ≤ 100
 ·have c3:¬ decide ((x.length:Int) > 100) = true:=by simp; omega
  rw [if_neg c3]
  unfold mclearing_Total_l1
  obtain ⟨z,h1,h3⟩:=iter_for (step:=fun (w:Int × Int)=>mclearing_Total_l1_s x w.1 w.2) (fun k (a:Int)=>(a,(k:Int))) x.length (fun k a=>a = sumN (el x) k ∧ ∀ i,i < k→0 ≤ el x i ∧ el x i ≤ 1099511627776)
   (fun z=>(z = .inl (sumN (el x) x.length) ∧ sumOk x = true) ∨ (z = .inr () ∧ sumOk x = false)) (by
    rintro k a hk ⟨rfl,hI⟩
    have hb:=sumN_bound (g:=el x) (B:=1099511627776) (by omega) k hI
    have c0:decide ((k:Int) < (x.length:Int)) = true:=by simpa using hk
    have w3:IntKind.wrap .i64 ((k:Int) + 1) = ((k + 1:Nat):Int):=wrap_succ (by omega)
    by_cases hx:0 ≤ el x k ∧ el x k ≤ 1099511627776
    ·refine .inl ⟨sumN (el x) (k + 1),?_,rfl,fun i hi=>?_⟩
     ·show mclearing_Total_l1_s x (sumN (el x) k) k = _
      unfold mclearing_Total_l1_s
      have hk2:(k:Int) * 1099511627776 ≤ 100 * 1099511627776:=by omega
      have d1:¬ decide (el x k < 0) = true:=by simp; omega
      have d2:¬ decide (el x k > 1099511627776) = true:=by simp; omega
      rw [if_pos c0,atI_el x k hk,Option.bind_some,if_neg d1,if_neg d2,wrap_id (by omega) (by omega),w3]
      rfl
     ·by_cases e:i = k
      ·subst e; exact hx
      ·exact hI i (by omega)
    ·refine .inr ⟨.inr (),?_,.inr ⟨rfl,?_⟩⟩
     ·show mclearing_Total_l1_s x (sumN (el x) k) k = _
      unfold mclearing_Total_l1_s
      rw [if_pos c0,atI_el x k hk,Option.bind_some]
      by_cases d1:el x k < 0
      ·rw [if_pos (decide_eq_true d1)]
      ·have d2:decide (el x k > 1099511627776) = true:=by simp; omega
       rw [if_neg (by simpa using d1),if_pos d2]
     ·rw [← Bool.not_eq_true,sumOk,allN_iff]
      exact fun q=>hx (of_decide_eq_true (q k hk))) (by
    rintro a ⟨rfl,hI⟩
    refine ⟨.inl (sumN (el x) x.length),?_,.inl ⟨rfl,allN_iff.2 fun i hi=>decide_eq_true (hI i hi)⟩⟩
    show mclearing_Total_l1_s x _ x.length = _
    unfold mclearing_Total_l1_s
    rw [if_neg (by simp)]) 0 ⟨rfl,fun i hi=>absurd hi (Nat.not_lt_zero _)⟩
  rw [show ((0:Nat):Int) = 0 from rfl] at h1
  rw [h1,Option.bind_some]
  rcases h3 with ⟨rfl,h⟩ | ⟨rfl,h⟩
  ·rw [if_pos ⟨h2,h⟩]; rfl
  ·rw [if_neg (by rw [h]; simp)]; rfl
 ·have c3:decide ((x.length:Int) > 100) = true:=by simp; omega
  rw [if_pos c3,if_neg (fun q=>h2 q.1)]
theorem rTotal_m (x:List Int):mallongeref42_Total x = some (totalL x):=by
 unfold mallongeref42_Total totalL
 unfold mallongeref42_Total_l1
 obtain ⟨z,h1,h3⟩:=iter_for (step:=fun (w:Int × Int)=>mallongeref42_Total_l1_s x w.1 w.2) (fun k (a:Int)=>(a,(k:Int))) x.length (fun k a=>a = sumN (el x) k ∧ (∀ i,i < k→0 ≤ el x i ∧ el x i ≤ 1099511627776) ∧ (0 < k→x.length ≤ 100))
  (fun z=>(z = .inl (sumN (el x) x.length) ∧ sumOk x = true ∧ x.length ≤ 100) ∨ (z = .inr () ∧ ¬ (x.length ≤ 100 ∧ sumOk x = true))) (by
   rintro k a hk ⟨rfl,hI,hk1⟩
   have hb:=sumN_bound (g:=el x) (B:=1099511627776) (by omega) k hI
   have c0:decide ((k:Int) < (x.length:Int)) = true:=by simpa using hk
   by_cases hx:0 ≤ el x k ∧ el x k ≤ 1099511627776
   ·have d1:¬ decide (el x k < 0) = true:=by simp; omega
    have d2:¬ decide (el x k > 1099511627776) = true:=by simp; omega
    by_cases h2:x.length ≤ 100
    ·have w3:IntKind.wrap .i64 ((k:Int) + 1) = ((k + 1:Nat):Int):=wrap_succ (by omega)
     refine .inl ⟨sumN (el x) (k + 1),?_,rfl,fun i hi=>?_,fun _=>h2⟩
     ·show mallongeref42_Total_l1_s x (sumN (el x) k) k = _
      unfold mallongeref42_Total_l1_s
      have hk2:(k:Int) * 1099511627776 ≤ 100 * 1099511627776:=by omega
      have d3:¬ decide ((x.length:Int) > 100) = true:=by simp; omega
      simp only [if_pos c0,atI_el x k hk,Option.bind_some,if_neg d1,if_neg d2,if_neg d3,w3]
      rw [wrap_id (by omega) (by omega)]
      rfl
     ·by_cases e:i = k
      ·subst e; exact hx
      ·exact hI i (by omega)
    ·refine .inr ⟨.inr (),?_,.inr ⟨rfl,fun q=>h2 q.1⟩⟩
     show mallongeref42_Total_l1_s x (sumN (el x) k) k = _
     unfold mallongeref42_Total_l1_s
     have d3:decide ((x.length:Int) > 100) = true:=by simp; omega
     simp only [if_pos c0,atI_el x k hk,Option.bind_some,if_neg d1,if_neg d2,if_pos d3]
   ·refine .inr ⟨.inr (),?_,.inr ⟨rfl,?_⟩⟩
    ·show mallongeref42_Total_l1_s x (sumN (el x) k) k = _
     unfold mallongeref42_Total_l1_s
     rw [if_pos c0,atI_el x k hk,Option.bind_some]
     by_cases d1:el x k < 0
     ·rw [if_pos (decide_eq_true d1)]
     ·have d2:decide (el x k > 1099511627776) = true:=by simp; omega
      rw [if_neg (by simpa using d1),Option.bind_some,if_pos d2]
    ·rintro ⟨_,q⟩
     rw [sumOk,allN_iff] at q
     exact hx (of_decide_eq_true (q k hk))) (by
   rintro a ⟨rfl,hI,hk1⟩
   refine ⟨.inl (sumN (el x) x.length),?_,.inl ⟨rfl,allN_iff.2 fun i hi=>decide_eq_true (hI i hi),?_⟩⟩
   ·show mallongeref42_Total_l1_s x _ x.length = _
    unfold mallongeref42_Total_l1_s
    rw [if_neg (by simp)]
   ·by_cases e:0 < x.length
    ·exact hk1 e
    ·omega) 0 ⟨rfl,fun i hi=>absurd hi (Nat.not_lt_zero _),fun q=>absurd q (Nat.lt_irrefl _)⟩
 rw [show ((0:Nat):Int) = 0 from rfl] at h1
 rw [h1,Option.bind_some]
 rcases h3 with ⟨rfl,h,h2⟩ | ⟨rfl,h⟩
 ·rw [if_pos ⟨h2,h⟩]; rfl
 ·rw [if_neg h]; rfl
end Go.Proofs.Ytgipgbhlibafhaa
