/- Clearing: balancing. -/
import Derived.Test.YtgipgbhlibafhaaPClear4
set_option linter.unusedVariables false
set_option linter.unusedSimpArgs false
namespace Go.Proofs.Ytgipgbhlibafhaa
open Go.RowKit Vm
theorem netF_succ (fr tt:Nat→Nat) (k:Nat) (x:Nat→Int) (v:Nat):netF fr tt (k + 1) x v = netF fr tt k x v + ((if tt k = v then x k else 0) - (if fr k = v then x k else 0)):=rfl
theorem netF_bound {fr tt:Nat→Nat} {x:Nat→Int} {S:Int} (hS:0 ≤ S):∀ k,(∀ i,i < k→0 ≤ x i ∧ x i ≤ S)→∀ v,-((k:Int) * S) ≤ netF fr tt k x v ∧ netF fr tt k x v ≤ (k:Int) * S
 | 0,_,v=>by simp [netF,sumN]
 | k + 1,h,v=>by
  have:=netF_bound hS k (fun i hi=>h i (by omega)) v (fr:=fr) (tt:=tt)
  have hk:=h k (by omega)
  rw [netF_succ,show ((k + 1:Nat):Int) * S = (k:Int) * S + S by rw [show ((k + 1:Nat):Int) = (k:Int) + 1 by omega,Int.add_mul,Int.one_mul]]
  split <;> split <;> omega
section
variable {n:Nat} {dues:List GDue} {sums:List Int}
def netL (n:Nat) (dues:List GDue) (x:Nat→Int):List Int:=(List.range n).map fun v=>netF (frD dues) (ttD dues) dues.length x v
theorem netL_len (x:Nat→Int):(netL n dues x).length = n:=by simp [netL]
theorem netL_el (x:Nat→Int) {v:Nat} (hv:v < n):el (netL n dues x) v = netF (frD dues) (ttD dues) dues.length x v:=by simp [netL,el,hv]
theorem nets_m (h:OkD n dues) (hl:sums.length = dues.length) (hr:InR (smD dues) dues.length (el sums)):mclearing_balance_l1 n dues sums 0 (List.replicate n (0:Int)) = some (netL n dues (el sums)):=by
 unfold mclearing_balance_l1
 suffices hh:∃ x,Iter (fun (w:Int × List Int)=>mclearing_balance_l1_s n dues sums w.1 w.2) (0,List.replicate n (0:Int)) = some x ∧ x = netL n dues (el sums) by
  obtain ⟨x,h1,h2⟩:=hh
  rw [h1,h2]
 have hlen:=h.len
 have hS:∀ i,i < dues.length→0 ≤ el sums i ∧ el sums i ≤ 1099511627776:=fun i hi=>by have:=hr i hi; have:=h.each i hi; unfold smD at *; omega
 refine iter_for (step:=fun (w:Int × List Int)=>mclearing_balance_l1_s n dues sums w.1 w.2) (fun k (a:List Int)=>((k:Int),a)) dues.length (fun k a=>a.length = n ∧ ∀ v,v < n→el a v = netF (frD dues) (ttD dues) k (el sums) v) _ ?_ ?_ _ ⟨List.length_replicate,fun v hv=>by rw [el_replicate_any _ _ _ hv]; rfl⟩
 ·rintro k a hk ⟨h1,h2⟩
  obtain ⟨⟨f1,f2⟩,⟨t1,t2⟩,hne,_⟩:=h.each k hk
  have hx:=hS k hk
  have hb:=netF_bound (fr:=frD dues) (tt:=ttD dues) (x:=el sums) (S:=1099511627776) (by omega) k fun i hi=>hS i (by omega)
  have hk100:(k:Int) * 1099511627776 ≤ 100 * 1099511627776:=by omega
  have hT:(el dues k).To.toNat < n:=by omega
  have hF:(el dues k).From.toNat < n:=by omega
  have bT:=hb (el dues k).To.toNat
  have bF:=hb (el dues k).From.toNat
  have hnf:¬ (el dues k).From.toNat = (el dues k).To.toNat:=by omega
  refine .inl ⟨(a.set (el dues k).To.toNat (el a (el dues k).To.toNat + el sums k)).set (el dues k).From.toNat (el a (el dues k).From.toNat - el sums k),?_,by simp [h1],fun v hv=>?_⟩
  ·show mclearing_balance_l1_s n dues sums k a = _
   unfold mclearing_balance_l1_s
   have c0:decide ((k:Int) < (dues.length:Int)) = true:=by simpa using hk
   have cT:0 ≤ (el dues k).To ∧ (el dues k).To.toNat < a.length:=⟨t1,by omega⟩
   have ck:0 ≤ (k:Int) ∧ (k:Int).toNat < sums.length:=⟨by omega,by rw [Int.toNat_natCast]; omega⟩
   have eS:sums[(k:Int).toNat]? = some (el sums k):=by rw [Int.toNat_natCast]; exact atE sums k (by omega)
   have eT:a[(el dues k).To.toNat]? = some (el a (el dues k).To.toNat):=atE a _ (by omega)
   have w1:IntKind.wrap .i64 (el a (el dues k).To.toNat + el sums k) = el a (el dues k).To.toNat + el sums k:=wrap_id (by rw [h2 _ hT]; omega) (by rw [h2 _ hT]; omega)
   have cF:0 ≤ (el dues k).From ∧ (el dues k).From.toNat < (a.set (el dues k).To.toNat (el a (el dues k).To.toNat + el sums k)).length:=⟨f1,by rw [List.length_set]; omega⟩
   have eF:(a.set (el dues k).To.toNat (el a (el dues k).To.toNat + el sums k))[(el dues k).From.toNat]? = some (el a (el dues k).From.toNat):=by
    rw [atE _ _ (by rw [List.length_set]; omega),el_set_any,if_neg fun q=>hnf q.1]
   have w2:IntKind.wrap .i64 (el a (el dues k).From.toNat - el sums k) = el a (el dues k).From.toNat - el sums k:=wrap_id (by rw [h2 _ hF]; omega) (by rw [h2 _ hF]; omega)
   have w3:IntKind.wrap .i64 ((k:Int) + 1) = ((k + 1:Nat):Int):=wrap_succ (by omega)
   simp only [if_pos c0,atI_el dues k hk,Option.bind_some,if_pos cT,eT,if_pos ck,eS,w1,if_pos cF,eF,w2,w3]
  ·rw [netF_succ,el_set_any,List.length_set]
   unfold ttD frD
   have h2v:=h2 v hv
   unfold ttD frD at h2v
   by_cases e1:v = (el dues k).From.toNat
   ·have e2:¬ (el dues k).To.toNat = v:=by omega
    rw [if_pos ⟨e1,by omega⟩,if_neg e2,if_pos e1.symm,← e1,h2v]; omega
   ·have e1' : ¬ (el dues k).From.toNat = v:=fun q=>e1 q.symm
    have e1'' : ¬ (v = (el dues k).From.toNat ∧ (el dues k).From.toNat < a.length):=fun q=>e1 q.1
    rw [if_neg e1'',if_neg e1',el_set_any]
    by_cases e2:v = (el dues k).To.toNat
    ·rw [if_pos ⟨e2,by omega⟩,if_pos e2.symm,← e2,h2v]; omega
    ·have e2' : ¬ (el dues k).To.toNat = v:=fun q=>e2 q.symm
     have e2'' : ¬ (v = (el dues k).To.toNat ∧ (el dues k).To.toNat < a.length):=fun q=>e2 q.1
     rw [if_neg e2'',if_neg e2',h2v]; omega
 ·rintro a ⟨h1,h2⟩
  refine ⟨a,?_,ext_elC (by rw [h1,netL_len]) fun v hv=>by rw [h1] at hv; rw [h2 v hv,netL_el _ hv]⟩
  show mclearing_balance_l1_s n dues sums dues.length a = _
  unfold mclearing_balance_l1_s
  rw [if_neg (by simp)]
end
end Go.Proofs.Ytgipgbhlibafhaa
