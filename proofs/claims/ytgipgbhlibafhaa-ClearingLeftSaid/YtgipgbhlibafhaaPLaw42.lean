/- Law 42: the best clearing (ClearingBest, ClearingProved, ClearingMore, ClearingLeft). -/
import Derived.Test.YtgipgbhlibafhaaPClear12
import Derived.Test.YtgipgbhlibafhaaPCycle2
set_option linter.unusedVariables false
set_option linter.unusedSimpArgs false
namespace Go.Proofs.Ytgipgbhlibafhaa
open Go.RowKit Vm
theorem best_ok {n:Nat} {dues:List GDue} (h:OkD n dues):∃ x q,mclearing_Clear n dues = some (x,q,0) ∧ BestX n dues x q:=by
 have hR:=right_m n dues
 rw [rightD_iff.2 ⟨n,rfl,h⟩] at hR
 exact best_m h hR
theorem law42_best (hs:mallongelaw42_sane = some true) (n:Int) (dues:List GDue) (other:List Int):mallongelaw42_ClearingBest n dues other = some true:=by
 unfold mallongelaw42_ClearingBest
 rw [hs,Option.bind_some,rRight_m,Option.bind_some]
 by_cases hR:rightD n dues = true
 ·obtain ⟨m,rfl,h⟩:=rightD_iff.1 hR
  obtain ⟨x,q,e,b⟩:=best_ok h
  obtain ⟨b1,e1,i1⟩:=balanced_m h (x:=x)
  obtain rfl:b1 = true:=i1.2 ⟨b.len,b.bald⟩
  obtain ⟨b2,e2,i2⟩:=balanced_m h (x:=other)
  rw [hR,if_neg (by decide),e,Option.bind_some,if_neg (by simp),e1,Option.bind_some,if_neg (by decide),e2,Option.bind_some]
  cases b2 with
  | false=>rfl
  | true =>
   obtain ⟨hl,hB⟩:=i2.1 rfl
   rw [if_neg (by decide),total_m,Option.bind_some,total_m,Option.bind_some,total_bald h hl hB,total_bald h b.len b.bald]
   have hle:=cert_best h.fr h.tt b.bald hB b.cert
   have hle' : ¬ decide (sumN (el other) dues.length > sumN (el x) dues.length) = true:=by simp; omega
   rw [if_neg hle']
   have hlen:=h.len
   have hbl:=b.len
   suffices hh:∃ z,mallongelaw42_ClearingBest_l1 other true (x,q,0) (sumN (el x) dues.length) (sumN (el other) dues.length) 0 = some z ∧ (z = .inl () ∨ z = .inr true) by
    obtain ⟨z,h1,h2⟩:=hh
    rw [h1]
    rcases h2 with rfl | rfl <;> rfl
   unfold mallongelaw42_ClearingBest_l1
   by_cases ht:sumN (el x) dues.length = sumN (el other) dues.length
   ·refine iter_spec (step:=fun w=>mallongelaw42_ClearingBest_l1_s other true (x,q,0) (sumN (el x) dues.length) (sumN (el other) dues.length) w) (fun i:Nat=>(i:Int)) dues.length (fun i=>el other i = el x i) _ ?_ ?_
    ·intro i hi
     have c0:decide ((i:Int) < (x.length:Int)) = true:=by simp; omega
     have ct:(sumN (el x) dues.length == sumN (el other) dues.length) = true:=by simpa using ht
     have w3:IntKind.wrap .i64 ((i:Int) + 1) = ((i + 1:Nat):Int):=wrap_succ (by omega)
     have eX:at? x (i:Int) = some (el x i):=atI_el x i (by omega)
     have eO:at? other (i:Int) = some (el other i):=atI_el other i (by omega)
     by_cases e:el other i = el x i
     ·refine .inl ⟨?_,e⟩
      show mallongelaw42_ClearingBest_l1_s other true (x,q,0) _ _ i = _
      unfold mallongelaw42_ClearingBest_l1_s
      dsimp only
      have ce:¬ (el x i != el other i) = true:=by simp [e]
      rw [if_pos c0,if_pos ct,eX,Option.bind_some,eO,Option.bind_some,if_neg ce,w3]
     ·refine .inr ⟨.inr (decide (el x i > el other i)),?_,fun hG=>.inr ?_⟩
      ·show mallongelaw42_ClearingBest_l1_s other true (x,q,0) _ _ i = _
       unfold mallongelaw42_ClearingBest_l1_s
       dsimp only
       have ce:(el x i != el other i) = true:=by simp; omega
       rw [if_pos c0,if_pos ct,eX,Option.bind_some,eO,Option.bind_some,if_pos ce,if_pos rfl]
       rfl
      ·have:=b.lex i hi (el other) hB (by omega) hG
       rw [decide_eq_true (by omega)]
    ·refine ⟨.inl (),?_,fun _=>.inl rfl⟩
     show mallongelaw42_ClearingBest_l1_s other true (x,q,0) _ _ dues.length = _
     unfold mallongelaw42_ClearingBest_l1_s
     dsimp only
     rw [if_neg (by simp [hbl])]
   ·refine ⟨.inl (),iter_end ?_,.inl rfl⟩
    show mallongelaw42_ClearingBest_l1_s other true (x,q,0) _ _ 0 = _
    unfold mallongelaw42_ClearingBest_l1_s
    have ct:¬ (sumN (el x) dues.length == sumN (el other) dues.length) = true:=by simpa using ht
    rw [if_neg ct]
    split <;> rfl
 ·rw [Bool.not_eq_true] at hR
  rw [hR,if_pos (show (!false) = true from rfl),if_pos rfl,right_m,hR]; rfl
theorem law42_proved (hs:mallongelaw42_sane = some true) (n:Int) (dues:List GDue) (x p:List Int):mallongelaw42_ClearingProved n dues x p = some true:=by
 unfold mallongelaw42_ClearingProved
 rw [hs,Option.bind_some,rRight_m,Option.bind_some]
 by_cases hR:rightD n dues = true
 ·rw [hR,if_neg (by decide)]
  by_cases c1:decide ((x.length:Int) > 110) = true
  ·rw [if_pos c1]
  rw [if_neg c1]
  by_cases c2:decide ((p.length:Int) > 50) = true
  ·rw [if_pos c2]
  rw [if_neg c2]
  obtain ⟨m,rfl,h⟩:=rightD_iff.1 hR
  obtain ⟨y,q,e,b⟩:=best_ok h
  obtain ⟨b1,e1,i1⟩:=proves_ok h (x:=y) (q:=q)
  obtain rfl:b1 = true:=i1.2 (b.prov h)
  obtain ⟨b2,e2,i2⟩:=proves_ok h (x:=x) (q:=p)
  rw [e,Option.bind_some,if_neg (by simp),e1,Option.bind_some,if_neg (by decide),e2,Option.bind_some]
  cases b2 with
  | false=>rfl
  | true =>
   have P:=i2.1 rfl
   obtain ⟨b3,e3,i3⟩:=balanced_m h (x:=x)
   obtain rfl:b3 = true:=i3.2 ⟨P.len,P.bald⟩
   have h1:=cert_best h.fr h.tt b.bald P.bald b.cert
   have h2:=cert_best h.fr h.tt P.bald b.bald P.cert
   have ht:sumN (el x) dues.length = sumN (el y) dues.length:=by omega
   rw [if_pos rfl,if_pos rfl,total_m,Option.bind_some,total_m,Option.bind_some,total_bald h P.len P.bald,total_bald h b.len b.bald,ht,if_pos (by simp),e3]
   rfl
 ·rw [Bool.not_eq_true] at hR
  rw [hR,if_pos (show (!false) = true from rfl)]
section
variable {fr tt:Nat→Nat} {s:Nat→Int} {n m:Nat}
theorem Bald.wide {s' x:Nat→Int} (h:Bald fr tt s n m x) (hs:∀ i,i < m→s i ≤ s' i):Bald fr tt s' n m x :=
 ⟨h.lo,fun i hi=>Int.le_trans (h.hi i hi) (hs i hi),h.net⟩
theorem over_le (hf:∀ i,i < m→fr i < n) (ht:∀ i,i < m→tt i < n) {x y p s' : Nat→Int} (hx:Bald fr tt s n m x) (hy:Bald fr tt s' n m y) (hc:Cert fr tt s m x p) {i:Nat} (hi:i < m) {e:Int} (he:0 ≤ e) (hs:∀ j,j < m→s' j = s j + if j = i then e else 0) (hp:1 + (p (tt i) - p (fr i)) ≤ 40):sumN y m ≤ sumN x m + 40 * e:=by
 have hx' : Bald fr tt s' n m x:=hx.wide fun j hj=>by rw [hs j hj]; split <;> omega
 have hd:=cert_diff hf ht hx' hy (p:=p)
 have hle:sumN (fun j=>(y j - x j) * (1 + (p (tt j) - p (fr j)))) m ≤ sumN (fun j=>if j = i then 40 * e else 0) m:=by
  refine sumN_le fun j hj=>?_
  have h1:=hy.lo j hj
  have h2:=hy.hi j hj
  rw [hs j hj] at h2
  have h3:=hx.lo j hj
  have h4:=hx.hi j hj
  obtain ⟨c1,c2⟩:=hc j hj
  generalize hD:1 + (p (tt j) - p (fr j)) = D at *
  by_cases e1:j = i
  ·subst e1
   rw [if_pos rfl] at h2 ⊢
   rw [hD] at hp
   rcases (by omega:D ≤ 0 ∨ 0 < D) with q | q
   ·rcases (by omega:x j ≤ y j ∨ y j < x j) with q2 | q2
    ·have:=Int.mul_nonneg (show 0 ≤ y j - x j by omega) (show 0 ≤ -D by omega)
     rw [Int.mul_neg] at this
     omega
    ·have:=c2 (by omega)
     have hD0:D = 0:=by omega
     rw [hD0]; simp; omega
   ·have hxs:x j = s j:=by
     refine Classical.byContradiction fun q2=>?_
     have:=c1 (by omega)
     omega
    have ha:(y j - x j) * D ≤ e * D:=Int.mul_le_mul_of_nonneg_right (by omega) (by omega)
    have hb:e * D ≤ e * 40:=Int.mul_le_mul_of_nonneg_left hp he
    omega
  ·rw [if_neg e1] at h2 ⊢
   rcases (by omega:x j = y j ∨ x j < y j ∨ y j < x j) with q | q | q
   ·rw [q]; simp
   ·have:=c1 (by omega)
    have:=Int.mul_nonneg (show 0 ≤ y j - x j by omega) (show 0 ≤ -D by omega)
    rw [Int.mul_neg] at this
    omega
   ·have:=c2 (by omega)
    have:=Int.mul_nonneg (show 0 ≤ x j - y j by omega) (show 0 ≤ D by omega)
    rw [show y j - x j = -(x j - y j) by omega,Int.neg_mul]
    omega
 rw [hd] at hle
 rw [sumN_one hi] at hle
 omega
end
theorem el_snoc_lt {α:Type} [Inhabited α] (l:List α) (a:α) {i:Nat} (h:i < l.length):el (l ++ [a]) i = el l i:=el_append_lt l a i h
theorem OkD.snoc {n:Nat} {dues:List GDue} {d:GDue} (h:OkD n (dues ++ [d])):OkD n dues:=by
 have hl:=h.len
 rw [List.length_append,List.length_singleton] at hl
 refine ⟨h.nn,by omega,fun i hi=>?_⟩
 have:=h.each i (by rw [List.length_append,List.length_singleton]; omega)
 rwa [el_snoc_lt dues d hi] at this
theorem dues_congr {n:Nat} {dues dues' : List GDue} (hl:dues'.length = dues.length) (hF:∀ i,i < dues.length→(el dues' i).From = (el dues i).From) (hT:∀ i,i < dues.length→(el dues' i).To = (el dues i).To) {s:Nat→Int} {x:Nat→Int} (h:Bald (frD dues) (ttD dues) s n dues.length x):Bald (frD dues') (ttD dues') s n dues'.length x:=by
 rw [hl]
 refine ⟨h.lo,h.hi,fun v hv=>?_⟩
 rw [← h.net v hv]
 unfold netF
 exact sumN_congr fun i hi=>by unfold frD ttD; rw [hF i hi,hT i hi]
theorem BestX.span {n:Nat} {dues:List GDue} {x q:List Int} (b:BestX n dues x q) {u v:Nat} (hu:u < n) (hv:v < n) (hn:n ≤ 40):1 + (el q v - el q u) ≤ 40:=by
 have:=b.least.le0 v hv
 have:=b.least.lo u hu
 omega
theorem addMore {n:Nat} {dues:List GDue} {d:GDue} (h' : OkD n (dues ++ [d])) {x q y r:List Int} (b:BestX n dues x q) (c:BestX n (dues ++ [d]) y r):sumN (el x) dues.length ≤ sumN (el y) (dues ++ [d]).length ∧ sumN (el y) (dues ++ [d]).length ≤ sumN (el x) dues.length + 40 * d.Sum:=by
 have h:=h'.snoc
 have hm:(dues ++ [d]).length = dues.length + 1:=by simp
 have hlast:el (dues ++ [d]) dues.length = d:=el_append_last dues d
 have hf:∀ i,i < dues.length→frD (dues ++ [d]) i = frD dues i:=fun i hi=>by unfold frD; rw [el_snoc_lt dues d hi]
 have ht:∀ i,i < dues.length→ttD (dues ++ [d]) i = ttD dues i:=fun i hi=>by unfold ttD; rw [el_snoc_lt dues d hi]
 have hsm:∀ i,i < dues.length→smD (dues ++ [d]) i = smD dues i:=fun i hi=>by unfold smD; rw [el_snoc_lt dues d hi]
 have hd:=h'.each dues.length (by omega)
 rw [hlast] at hd
 -- the old clearing with nothing of the new due
 let x0:Nat→Int:=fun i=>if i < dues.length then el x i else 0
 let s0:Nat→Int:=fun i=>if i < dues.length then smD dues i else 0
 have hsum:sumN x0 (dues ++ [d]).length = sumN (el x) dues.length:=by
  rw [hm]
  show sumN x0 dues.length + (if dues.length < dues.length then el x dues.length else 0) = _
  rw [if_neg (Nat.lt_irrefl _),Int.add_zero]
  exact sumN_congr fun i hi=>by show (if i < dues.length then el x i else 0) = _; rw [if_pos hi]
 have hx0:Bald (frD (dues ++ [d])) (ttD (dues ++ [d])) s0 n (dues ++ [d]).length x0:=by
  rw [hm]
  refine ⟨fun i hi=>?_,fun i hi=>?_,fun v hv=>?_⟩
  ·show 0 ≤ if i < dues.length then el x i else 0
   split
   ·rename_i c; exact b.bald.lo i c
   ·exact Int.le_refl _
  ·show (if i < dues.length then el x i else 0) ≤ if i < dues.length then smD dues i else 0
   split
   ·rename_i c; exact b.bald.hi i c
   ·exact Int.le_refl _
  ·have e0:x0 dues.length = 0:=if_neg (Nat.lt_irrefl _)
   rw [netF_succ,e0]
   have:netF (frD (dues ++ [d])) (ttD (dues ++ [d])) dues.length x0 v = netF (frD dues) (ttD dues) dues.length (el x) v:=sumN_congr fun i hi=>by
    have:x0 i = el x i:=if_pos hi
    rw [hf i hi,ht i hi,this]
   rw [this,b.bald.net v hv]
   simp
 have hc0:Cert (frD (dues ++ [d])) (ttD (dues ++ [d])) s0 (dues ++ [d]).length x0 (el q):=by
  intro i hi
  rw [hm] at hi
  by_cases e:i < dues.length
  ·have e1:x0 i = el x i:=if_pos e
   have e2:s0 i = smD dues i:=if_pos e
   rw [e1,e2,hf i e,ht i e]
   exact b.cert i e
  ·have e1:x0 i = 0:=if_neg e
   have e2:s0 i = 0:=if_neg e
   rw [e1,e2]
   exact ⟨fun z=>absurd z (Int.lt_irrefl _),fun z=>absurd z (Int.lt_irrefl _)⟩
 have hfr':=h'.fr
 have htt':=h'.tt
 constructor
 ·rw [← hsum]
  refine cert_best hfr' htt' c.bald (hx0.wide fun i hi=>?_) c.cert
  show (if i < dues.length then smD dues i else 0) ≤ _
  split
  ·rename_i e; rw [hsm i e]; exact Int.le_refl _
  ·obtain rfl:i = dues.length:=by omega
   unfold smD; rw [hlast]; omega
 ·rw [← hsum]
  refine over_le (s:=s0) hfr' htt' hx0 c.bald hc0 (i:=dues.length) (by omega) (by omega) (fun j hj=>?_) (b.span (hfr' _ (by omega)) (htt' _ (by omega)) h.nn)
  show _ = (if j < dues.length then smD dues j else 0) + _
  by_cases e:j < dues.length
  ·rw [if_pos e,if_neg (by omega),hsm j e,Int.add_zero]
  ·obtain rfl:j = dues.length:=by omega
   rw [if_neg e,if_pos rfl]
   unfold smD; rw [hlast]; omega
theorem raiseMore {n:Nat} {dues dues' : List GDue} (h:OkD n dues) (h' : OkD n dues') {i:Nat} (hi:i < dues.length) {e:Int} (he:0 ≤ e) (hl:dues'.length = dues.length) (hF:∀ i,i < dues.length→(el dues' i).From = (el dues i).From) (hT:∀ i,i < dues.length→(el dues' i).To = (el dues i).To) (hS:∀ j,j < dues.length→(el dues' j).Sum = (el dues j).Sum + if j = i then e else 0) {x q y r:List Int} (b:BestX n dues x q) (c:BestX n dues' y r):sumN (el x) dues.length ≤ sumN (el y) dues.length ∧ sumN (el y) dues.length ≤ sumN (el x) dues.length + 40 * e:=by
 have hw:Bald (frD dues') (ttD dues') (smD dues') n dues'.length (el x):=dues_congr hl hF hT (b.bald.wide fun j hj=>by show (el dues j).Sum ≤ (el dues' j).Sum; rw [hS j hj]; split <;> omega)
 have hy:Bald (frD dues) (ttD dues) (smD dues') n dues.length (el y):=dues_congr hl.symm (fun j hj=>(hF j (by omega)).symm) (fun j hj=>(hT j (by omega)).symm) c.bald
 have h1:=cert_best h'.fr h'.tt c.bald hw c.cert
 rw [hl] at h1
 exact ⟨h1,over_le h.fr h.tt b.bald hy b.cert hi he (fun j hj=>hS j hj) (b.span (h.fr i hi) (h.tt i hi) h.nn)⟩
theorem jMore {n:Nat} {dues:List GDue} {d:GDue} {e:Int} (h' : OkD n (dues ++ [d])) (he:0 ≤ e) (he2:e ≤ 1099511627776) {raised:List GDue} (hr:raised = dues ∨ ∃ i,i < dues.length ∧ raised = dues.set i (GDue.mk (el dues i).From (el dues i).To ((el dues i).Sum + e))):mallongelaw42_ClearingMore_j1 n dues d e true raised = some true:=by
 have h:=h'.snoc
 obtain ⟨x,q,e1,b⟩:=best_ok h
 obtain ⟨y,r,e2,c⟩:=best_ok h'
 have hd:=h'.each dues.length (by simp)
 rw [el_append_last] at hd
 obtain ⟨m1,m2⟩:=addMore h' b c
 have hb:=sumN_bound (g:=el x) (B:=1099511627776) (by omega) dues.length (fun i hi=>by have:=b.bald.lo i hi; have:=b.bald.hi i hi; have:=h.each i hi; unfold smD at *; omega)
 have hlen:=h.len
 have hk2:(dues.length:Int) * 1099511627776 ≤ 100 * 1099511627776:=by omega
 have hmul:∀ a:Int,0 ≤ a→a ≤ 1099511627776→IntKind.wrap .i64 (40 * a) = 40 * a:=fun a h1 h2=>wrap_id (by omega) (by omega)
 unfold mallongelaw42_ClearingMore_j1
 rw [e1,Option.bind_some,List.nil_append,e2,Option.bind_some,if_neg (by simp),if_neg (by simp),total_m,Option.bind_some,total_m,Option.bind_some,total_bald h b.len b.bald,total_bald h' c.len c.bald,hmul _ (by omega) (by omega),wrap_id (by omega) (by omega)]
 have d1:¬ decide (sumN (el y) (dues ++ [d]).length < sumN (el x) dues.length) = true:=by rw [decide_eq_true_eq]; omega
 have d2:¬ decide (sumN (el y) (dues ++ [d]).length > sumN (el x) dues.length + 40 * d.Sum) = true:=by rw [decide_eq_true_eq]; omega
 rw [if_neg d1,if_neg d2,rRight_m,Option.bind_some]
 by_cases hR:rightD n raised = true
 ·obtain ⟨m,em,h2⟩:=rightD_iff.1 hR
  obtain rfl:n = m:=by omega
  obtain ⟨z,t,e3,f⟩:=best_ok h2
  rw [hR,if_neg (by decide),e3,Option.bind_some,total_m,Option.bind_some,if_pos rfl,if_pos (by simp),total_bald h2 f.len f.bald,hmul e he he2,wrap_id (by omega) (by omega)]
  have key:sumN (el x) dues.length ≤ sumN (el z) raised.length ∧ sumN (el z) raised.length ≤ sumN (el x) dues.length + 40 * e:=by
   rcases hr with rfl | ⟨i,hi,rfl⟩
   ·have:=cert_best h.fr h.tt b.bald f.bald b.cert
    have:=cert_best h.fr h.tt f.bald b.bald f.cert
    omega
   ·rw [List.length_set]
    have hset:∀ j,j < dues.length→el (dues.set i (GDue.mk (el dues i).From (el dues i).To ((el dues i).Sum + e))) j = if j = i then GDue.mk (el dues i).From (el dues i).To ((el dues i).Sum + e) else el dues j:=fun j hj=>el_set dues i j _ hi
    refine raiseMore h h2 hi he (by rw [List.length_set]) (fun j hj=>?_) (fun j hj=>?_) (fun j hj=>?_) b f
    ·rw [hset j hj]; split
     ·rename_i e; subst e; rfl
     ·rfl
    ·rw [hset j hj]; split
     ·rename_i e; subst e; rfl
     ·rfl
    ·rw [hset j hj]
     by_cases e' : j = i
     ·subst e'; rw [if_pos rfl,if_pos rfl]
     ·rw [if_neg e',if_neg e',Int.add_zero]
  have k1:decide (sumN (el z) raised.length ≥ sumN (el x) dues.length) = true:=decide_eq_true key.1
  rw [if_pos k1,decide_eq_true key.2]
 ·rw [Bool.not_eq_true] at hR
  rw [hR,if_pos (show (!false) = true from rfl)]
theorem law42_more (hs:mallongelaw42_sane = some true) (n:Int) (dues:List GDue) (d:GDue) (i e:Int) (hfit:dues.length * 24 ≤ 140737488351232):mallongelaw42_ClearingMore n dues d i e = some true:=by
 unfold mallongelaw42_ClearingMore
 rw [hs,Option.bind_some,if_pos (by omega),List.nil_append,if_pos (by omega),rRight_m,Option.bind_some]
 by_cases hR:rightD n (dues ++ [d]) = true
 ·obtain ⟨m,rfl,h⟩:=rightD_iff.1 hR
  rw [hR,if_neg (by decide)]
  by_cases c1:decide (e < 0) = true
  ·rw [if_pos c1]
  rw [if_neg c1]
  by_cases c2:decide (e > 1099511627776) = true
  ·rw [if_pos c2]
  rw [if_neg c2]
  rw [decide_eq_true_eq] at c1 c2
  have hj:∀ {raised:List GDue},(raised = dues ∨ ∃ i,i < dues.length ∧ raised = dues.set i (GDue.mk (el dues i).From (el dues i).To ((el dues i).Sum + e)))→mallongelaw42_ClearingMore_j1 m dues d e true raised = some true:=fun hr=>jMore h (by omega) (by omega) hr
  rw [if_pos (show (0 + dues.length) * 24 ≤ 140737488355328 by omega)]
  by_cases c3:i ≥ 0
  ·rw [if_pos (decide_eq_true c3)]
   by_cases c4:i < dues.length
   ·have ci:0 ≤ i ∧ i.toNat < dues.length:=⟨c3,by omega⟩
    have ei:dues[i.toNat]? = some (el dues i.toNat):=atE dues _ (by omega)
    have hd:=h.snoc.each i.toNat (by omega)
    rw [if_pos (decide_eq_true c4),if_pos ci,ei,Option.bind_some,if_pos ci,Option.bind_some,wrap_id (by omega) (by omega),hj (.inr ⟨i.toNat,by omega,rfl⟩)]
    rfl
   ·have c4' : ¬ decide (i < (dues.length:Int)) = true:=by simpa using c4
    rw [if_neg c4',hj (.inl rfl)]; rfl
  ·have c3' : ¬ decide (i ≥ 0) = true:=by simpa using c3
   rw [if_neg c3',hj (.inl rfl)]; rfl
 ·rw [Bool.not_eq_true] at hR
  rw [hR,if_pos (show (!false) = true from rfl)]
end Go.Proofs.Ytgipgbhlibafhaa
