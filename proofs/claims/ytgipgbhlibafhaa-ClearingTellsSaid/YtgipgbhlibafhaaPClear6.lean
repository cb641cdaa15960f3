/- Clearing: which merchant with too little is next. -/
import Derived.Test.YtgipgbhlibafhaaPClear5
set_option linter.unusedVariables false
set_option linter.unusedSimpArgs false
namespace Go.Proofs.Ytgipgbhlibafhaa
open Go.RowKit Vm
section
variable {n:Nat} {dues:List GDue} {sums:List Int}
theorem end_m (hn:n ≤ 1000) {too:List Int} (ht:too.length = n) {best:List Lab} (hb:best.length = n) (last:List Int) (l:List GClearingStep):∃ e:Int,mclearing_balance_l2 n dues too sums l (best.map gLab,last) (-1) 0 = some e ∧
  ((e = -1 ∧ ∀ v,v < n→el too v < 0→(el best v).fine = false) ∨ ∃ v:Nat,e = v ∧ v < n ∧ el too v < 0 ∧ (el best v).fine = true):=by
 unfold mclearing_balance_l2
 refine iter_for (step:=fun (w:Int × Int)=>mclearing_balance_l2_s n dues too sums l (best.map gLab,last) w.1 w.2) (fun k (a:Int)=>(a,(k:Int))) n
  (fun k a=>(a = -1 ∧ ∀ v,v < k→el too v < 0→(el best v).fine = false) ∨ ∃ v:Nat,a = v ∧ v < n ∧ el too v < 0 ∧ (el best v).fine = true) _ ?_ ?_ _ (.inl ⟨rfl,fun v hv=>absurd hv (Nat.not_lt_zero _)⟩)
 ·intro k a hk hI
  refine .inl ?_
  have c0:decide ((k:Int) < (n:Int)) = true:=by simpa using hk
  have ck:0 ≤ (k:Int) ∧ (k:Int).toNat < too.length:=⟨by omega,by rw [Int.toNat_natCast]; omega⟩
  have ek:too[(k:Int).toNat]? = some (el too k):=by rw [Int.toNat_natCast]; exact atE too k (by omega)
  have cb:0 ≤ (k:Int) ∧ (k:Int).toNat < (best.map gLab).length:=⟨by omega,by rw [Int.toNat_natCast,List.length_map]; omega⟩
  have eb:(best.map gLab)[(k:Int).toNat]? = some (gLab (el best k)):=by rw [Int.toNat_natCast,List.getElem?_map,atE best k (by omega)]; rfl
  have w3:IntKind.wrap .i64 ((k:Int) + 1) = ((k + 1:Nat):Int):=wrap_succ (by omega)
  have hfine:(gLab (el best k)).fine = (el best k).fine:=rfl
  by_cases hneg:el too k < 0
  ·have cn:decide (el too k < 0) = true:=by simpa using hneg
   rcases hI with ⟨rfl,hI⟩ | ⟨v,rfl,hv,hv1,hv2⟩
   ·have ce:decide ((-1:Int) < 0) = true:=rfl
    have cg:¬ decide ((-1:Int) ≥ 0) = true:=by decide
    by_cases hf:(el best k).fine = true
    ·refine ⟨(k:Int),?_,.inr ⟨k,rfl,hk,hneg,hf⟩⟩
     show mclearing_balance_l2_s n dues too sums l (best.map gLab,last) (-1) k = _
     unfold mclearing_balance_l2_s
     simp only [if_pos c0,if_pos ck,ek,Option.bind_some,if_pos cn,if_pos ce,if_pos cb,eb,hfine,if_pos hf,w3]
    ·refine ⟨-1,?_,.inl ⟨rfl,fun v hv hvn=>?_⟩⟩
     ·show mclearing_balance_l2_s n dues too sums l (best.map gLab,last) (-1) k = _
      unfold mclearing_balance_l2_s
      simp only [if_pos c0,if_pos ck,ek,Option.bind_some,if_pos cn,if_pos ce,if_pos cb,eb,hfine,if_neg hf,if_neg cg,w3]
     ·by_cases e:v = k
      ·subst e; simpa using hf
      ·exact hI v (by omega) hvn
   ·have ce:¬ decide ((v:Int) < 0) = true:=by simp
    have cg:decide ((v:Int) ≥ 0) = true:=by simp
    have cv:0 ≤ (v:Int) ∧ (v:Int).toNat < (best.map gLab).length:=⟨by omega,by rw [Int.toNat_natCast,List.length_map]; omega⟩
    have ev:(best.map gLab)[(v:Int).toNat]? = some (gLab (el best v)):=by rw [Int.toNat_natCast,List.getElem?_map,atE best v (by omega)]; rfl
    by_cases hls:lessL (el best k) (el best v) = true
    ·refine ⟨(k:Int),?_,.inr ⟨k,rfl,hk,hneg,((lessL_iff _ _).1 hls).1⟩⟩
     show mclearing_balance_l2_s n dues too sums l (best.map gLab,last) v k = _
     unfold mclearing_balance_l2_s
     simp only [if_pos c0,if_pos ck,ek,Option.bind_some,if_pos cn,if_neg ce,if_pos cg,if_pos cb,eb,if_pos cv,ev,less_eq,if_pos hls,w3]
    ·refine ⟨(v:Int),?_,.inr ⟨v,rfl,hv,hv1,hv2⟩⟩
     show mclearing_balance_l2_s n dues too sums l (best.map gLab,last) v k = _
     unfold mclearing_balance_l2_s
     simp only [if_pos c0,if_pos ck,ek,Option.bind_some,if_pos cn,if_neg ce,if_pos cg,if_pos cb,eb,if_pos cv,ev,less_eq,if_neg hls,w3]
  ·have cn:¬ decide (el too k < 0) = true:=by simpa using hneg
   refine ⟨a,?_,?_⟩
   ·show mclearing_balance_l2_s n dues too sums l (best.map gLab,last) a k = _
    unfold mclearing_balance_l2_s
    simp only [if_pos c0,if_pos ck,ek,Option.bind_some,if_neg cn,w3]
   ·rcases hI with ⟨h1,h2⟩ | q
    ·refine .inl ⟨h1,fun v hv hvn=>?_⟩
     by_cases e:v = k
     ·subst e; exact absurd hvn hneg
     ·exact h2 v (by omega) hvn
    ·exact .inr q
 ·intro a hI
  refine ⟨a,?_,hI⟩
  show mclearing_balance_l2_s n dues too sums l (best.map gLab,last) a n = _
  unfold mclearing_balance_l2_s
  rw [if_neg (by simp)]
end
end Go.Proofs.Ytgipgbhlibafhaa
