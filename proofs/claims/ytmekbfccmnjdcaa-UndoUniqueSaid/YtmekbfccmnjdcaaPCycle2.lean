/- Layer 6 (graph): shortest cycles. -/
import Derived.Test.YtmekbfccmnjdcaaPCycle
set_option linter.unusedVariables false
set_option linter.unusedSimpArgs false
namespace Go.Proofs.Ytmekbfccmnjdcaa
open Go.RowKit Vm
def LeastC (E:Nat→Nat→Prop) (s:Nat) (r:Int):Prop:=(r = 0 ∧ ∀ k,¬ Cl E s k) ∨ ∃ k:Nat,r = ((k + 1:Nat):Int) ∧ Cl E s k ∧ ∀ j,j < k→¬ Cl E s j
def candD (s:Nat) (far:List Int) (b:Int):Prop:=(s:Int) ≤ b ∧ 0 < el far b.toNat
instance (s:Nat) (far:List Int) (b:Int):Decidable (candD s far b):=by unfold candD; exact inferInstance
theorem Dist.cases {E:Nat→Nat→Prop} {s n:Nat} {far:List Int} (h:Dist E s n far) {a:Nat} (ha:a < n) (hp:0 < el far a):∃ d:Nat,el far a = ((d + 1:Nat):Int) ∧ Tos E s d a ∧ ∀ k,k < d→¬ Tos E s k a:=by
 rcases h.2.1 a ha with ⟨h1,_⟩ | h1
 ·omega
 ·exact h1
theorem Dist.of {E:Nat→Nat→Prop} {s n:Nat} {far:List Int} (h:Dist E s n far) {a d:Nat} (ha:a < n) (t:Tos E s d a) (hm:∀ k,k < d→¬ Tos E s k a):el far a = ((d + 1:Nat):Int):=by
 rcases h.2.1 a ha with ⟨_,h1⟩ | ⟨e,h1,h2,h3⟩
 ·exact absurd t (h1 d)
 ·have:e = d:=by
   rcases Nat.lt_trichotomy e d with q | q | q
   ·exact absurd h2 (hm e q)
   ·exact q
   ·exact absurd t (h3 d q)
  rw [h1,this]
theorem least_scan {n:Nat} {es:List GArr2I} (hes:∀ e ∈ es,inE n e) {s:Nat} {far:List Int} (hD:Dist (edg es) s n far) {step:Int × Int→Option ((Int × Int) ⊕ Int)}
  (h:∀ (k:Nat) (p:Int),k < (adj es s).length→(0 ≤ p)→step (p,(k:Int)) = some (.inl (if candD s far (el (adj es s) k) ∧ (p = 0 ∨ el far (el (adj es s) k).toNat < p) then el far (el (adj es s) k).toNat else p,((k + 1:Nat):Int))))
  (he:∀ p,step (p,((adj es s).length:Int)) = some (.inr p)):∃ r,Iter step (0,0) = some r ∧ LeastC (edg es) s r:=by
 refine iter_for (step:=step) (fun (k:Nat) (p:Int)=>(p,(k:Int))) (adj es s).length
  (fun k p=>0 ≤ p ∧ (∀ j,j < k→candD s far (el (adj es s) j)→p ≠ 0 ∧ p ≤ el far (el (adj es s) j).toNat) ∧ (p = 0 ∨ ∃ j,j < k ∧ candD s far (el (adj es s) j) ∧ p = el far (el (adj es s) j).toNat))
  (fun r=>LeastC (edg es) s r) ?_ ?_ 0 ⟨Int.le_refl _,fun j hj=>absurd hj (Nat.not_lt_zero _),.inl rfl⟩
 ·rintro k p hk ⟨h0,h1,h2⟩
  refine .inl ⟨_,h k p hk h0,?_⟩
  by_cases c:candD s far (el (adj es s) k) ∧ (p = 0 ∨ el far (el (adj es s) k).toNat < p)
  ·rw [if_pos c]
   have c2:=c.1.2
   refine ⟨by omega,fun j hj hc=>?_,.inr ⟨k,by omega,c.1,rfl⟩⟩
   by_cases e:j = k
   ·subst e; exact ⟨by omega,Int.le_refl _⟩
   ·have:=h1 j (by omega) hc
    rcases c.2 with q | q
    ·exact absurd q this.1
    ·exact ⟨by omega,by omega⟩
  ·rw [if_neg c]
   refine ⟨h0,fun j hj hc=>?_,?_⟩
   ·by_cases e:j = k
    ·subst e
     have:¬ (p = 0 ∨ el far (el (adj es s) j).toNat < p):=fun q=>c ⟨hc,q⟩
     omega
    ·exact h1 j (by omega) hc
   ·rcases h2 with q | ⟨j,q1,q2⟩
    ·exact .inl q
    ·exact .inr ⟨j,by omega,q2⟩
 ·rintro p ⟨h0,h1,h2⟩
  refine ⟨p,he p,?_⟩
  have cand:∀ k,Cl (edg es) s k→∃ j,j < (adj es s).length ∧ candD s far (el (adj es s) j) ∧ el far (el (adj es s) j).toNat ≤ k + 1:=by
   rintro k ⟨b,hb,t⟩
   obtain ⟨j,hj,hj2⟩:=mem_el (adj_edg.2 hb)
   have hbn:=(edg_lt hes hb).2
   refine ⟨j,hj,?_⟩
   rw [hj2,Int.toNat_natCast]
   rcases hD.2.1 b hbn with ⟨_,q⟩ | ⟨d,q1,q2,q3⟩
   ·exact absurd t (q k)
   ·refine ⟨⟨by have:=t.ge; omega,by rw [Int.toNat_natCast]; omega⟩,?_⟩
    rcases Nat.lt_or_ge k d with q | q
    ·exact absurd t (q3 k q)
    ·omega
  rcases h2 with rfl | ⟨j,hj,hc,hp⟩
  ·refine .inl ⟨rfl,fun k hk=>?_⟩
   obtain ⟨j,q1,q2,_⟩:=cand k hk
   exact (h1 j q1 q2).1 rfl
  ·obtain ⟨b,hb,hbn,hbe⟩:=adj_nat hes (el_mem (adj es s) j hj)
   rw [hb,Int.toNat_natCast] at hp
   have hpos:=hc.2
   rw [hb,Int.toNat_natCast] at hpos
   obtain ⟨d,d1,d2,d3⟩:=hD.cases hbn hpos
   refine .inr ⟨d,by rw [hp,d1],⟨b,hbe,d2⟩,fun k hk hcl=>?_⟩
   obtain ⟨j',q1,q2,q3⟩:=cand k hcl
   have:=(h1 j' q1 q2).2
   omega
theorem least_eq {n:Nat} {es:List GArr2I} (hes:∀ e ∈ es,inE n e) (hl:es.length ≤ 2000) {s:Nat} {far:List Int} (hD:Dist (edg es) s n far) (a0:Int) (r8 r9:List (List Int)) :
  ∃ r,mgraph_Cycle_l2 a0 (s:Int) far r8 r9 (adj es s) 0 0 = some r ∧ LeastC (edg es) s r:=by
 have hlen:=adj_len es s
 unfold mgraph_Cycle_l2
 refine least_scan hes hD ?_ ?_
 ·intro k p hk hp
  obtain ⟨a,ha,han,hae⟩:=adj_nat hes (el_mem (adj es s) k hk)
  have hal:a < far.length:=by rw [hD.1]; exact han
  simp only [mgraph_Cycle_l2_s,lt_t hk,if_true,at_el _ _ hk,Option.bind_some,ha,Int.toNat_natCast,if_pos (show (0:Int) ≤ (a:Int) ∧ a < far.length from ⟨by omega,hal⟩),get_el far a hal,wrap_succ (show k < 9223372036854775807 by omega)]
  have hcd:candD s far (a:Int) ↔ ((a:Int) ≥ (s:Int) ∧ el far a > 0):=by unfold candD; rw [Int.toNat_natCast]
  by_cases c1:(a:Int) ≥ (s:Int)
  ·rw [if_pos (decide_eq_true c1)]
   by_cases c2:el far a > 0
   ·rw [if_pos (decide_eq_true c2)]
    by_cases c3:p = 0
    ·rw [if_pos (by rw [c3]; rfl),if_pos ⟨hcd.2 ⟨c1,c2⟩,.inl c3⟩]
    ·rw [if_neg (by simpa using c3)]
     by_cases c4:el far a < p
     ·rw [if_pos (decide_eq_true c4),if_pos ⟨hcd.2 ⟨c1,c2⟩,.inr c4⟩]
     ·rw [if_neg (by simpa using c4),if_neg (fun q=>by rcases q.2 with q | q; exact c3 q; exact c4 q)]
   ·rw [if_neg (by simpa using c2),if_neg (fun q=>c2 (hcd.1 q.1).2)]
  ·rw [if_neg (by simpa using c1),if_neg (fun q=>c1 (hcd.1 q.1).1)]
 ·intro p
  simp only [mgraph_Cycle_l2_s,lt_f,if_false]
theorem least_eq7 {n:Nat} {es:List GArr2I} (hes:∀ e ∈ es,inE n e) (hl:es.length ≤ 2000) {s:Nat} {far:List Int} (hD:Dist (edg es) s n far) (a0:Int) (p48:List Int) (r8 r9:List (List Int)) :
  ∃ r,mgraph_Cycle_l7 a0 (s:Int) p48 far r8 r9 (adj es s) 0 0 = some r ∧ LeastC (edg es) s r:=by
 have hlen:=adj_len es s
 unfold mgraph_Cycle_l7
 refine least_scan hes hD ?_ ?_
 ·intro k p hk hp
  obtain ⟨a,ha,han,hae⟩:=adj_nat hes (el_mem (adj es s) k hk)
  have hal:a < far.length:=by rw [hD.1]; exact han
  simp only [mgraph_Cycle_l7_s,lt_t hk,if_true,at_el _ _ hk,Option.bind_some,ha,Int.toNat_natCast,if_pos (show (0:Int) ≤ (a:Int) ∧ a < far.length from ⟨by omega,hal⟩),get_el far a hal,wrap_succ (show k < 9223372036854775807 by omega)]
  have hcd:candD s far (a:Int) ↔ ((a:Int) ≥ (s:Int) ∧ el far a > 0):=by unfold candD; rw [Int.toNat_natCast]
  by_cases c1:(a:Int) ≥ (s:Int)
  ·rw [if_pos (decide_eq_true c1)]
   by_cases c2:el far a > 0
   ·rw [if_pos (decide_eq_true c2)]
    by_cases c3:p = 0
    ·rw [if_pos (by rw [c3]; rfl),if_pos ⟨hcd.2 ⟨c1,c2⟩,.inl c3⟩]
    ·rw [if_neg (by simpa using c3)]
     by_cases c4:el far a < p
     ·rw [if_pos (decide_eq_true c4),if_pos ⟨hcd.2 ⟨c1,c2⟩,.inr c4⟩]
     ·rw [if_neg (by simpa using c4),if_neg (fun q=>by rcases q.2 with q | q; exact c3 q; exact c4 q)]
   ·rw [if_neg (by simpa using c2),if_neg (fun q=>c2 (hcd.1 q.1).2)]
  ·rw [if_neg (by simpa using c1),if_neg (fun q=>c1 (hcd.1 q.1).1)]
 ·intro p
  simp only [mgraph_Cycle_l7_s,lt_f,if_false]
def ci (c:List Nat):List Int:=c.map fun i:Nat=>(i:Int)
theorem ci_len (c:List Nat):(ci c).length = c.length:=by simp [ci]
theorem ci_el (c:List Nat) (i:Nat) (h:i < c.length):el (ci c) i = (el c i:Nat):=by
 rw [el_lt _ _ (by rw [ci_len]; exact h),el_lt _ _ h]
 simp [ci]
theorem ci_snoc (c:List Nat) (b:Nat):ci c ++ [(b:Int)] = ci (c ++ [b]):=by simp [ci]
structure CycG (E:Nat→Nat→Prop) (c:List Nat):Prop where
 pos:0 < c.length
 tos:∀ i,0 < i→i < c.length→Tos E (el c 0) (c.length - i) (el c i)
 step:∀ i,i + 1 < c.length→E (el c i) (el c (i + 1))
 least:∀ i,i + 1 < c.length→∀ b,E (el c i) b→Tos E (el c 0) (c.length - (i + 1)) b→el c (i + 1) ≤ b
 cl:Cl E (el c 0) (c.length - 1)
 min:∀ k,Cl E (el c 0) k→c.length ≤ k + 1
structure PthG (E:Nat→Nat→Prop) (s n L:Nat) (c:List Nat):Prop where
 pos:0 < c.length
 le:c.length ≤ L
 head:el c 0 = s
 lt:∀ i,i < c.length→el c i < n
 tos:∀ i,0 < i→i < c.length→Tos E s (L - i) (el c i) ∧ ∀ k,k < L - i→¬ Tos E s k (el c i)
 step:∀ i,i + 1 < c.length→E (el c i) (el c (i + 1))
 least:∀ i,i + 1 < c.length→∀ b,E (el c i) b→Tos E s (L - (i + 1)) b→el c (i + 1) ≤ b
theorem path_eq {n:Nat} {es:List GArr2I} (hes:∀ e ∈ es,inE n e) (hl:es.length ≤ 2000) {s:Nat} (hs:s < n) {far:List Int} (hD:Dist (edg es) s n far) {k:Nat} (hc:Cl (edg es) s k) (hm:∀ j,j < k→¬ Cl (edg es) s j) (hk:k < 1000) (a0 p25:Int) (r9:List (List Int)) :
  ∃ c,mgraph_Cycle_j5 a0 (rowsG n es) r9 (s:Int) ((k + 1:Nat):Int) p25 far = some (ci c) ∧ CycG (edg es) c ∧ el c 0 = s ∧ c.length = k + 1 ∧ ∀ i,i < c.length→el c i < n:=by
 have l4:∃ x,mgraph_Cycle_l4 a0 (s:Int) p25 far (rowsG n es) r9 ((k + 1:Nat):Int) [(s:Int)] = some x ∧ ∃ c,x = ci c ∧ PthG (edg es) s n (k + 1) c ∧ c.length = k + 1:=by
  unfold mgraph_Cycle_l4
  refine iter_meas (step:=fun (w:Int × (List Int))=>mgraph_Cycle_l4_s a0 (s:Int) p25 far (rowsG n es) r9 w.1 w.2) (fun z=>∃ c,z.2 = ci c ∧ PthG (edg es) s n (k + 1) c ∧ z.1 = ((k + 2 - c.length:Nat):Int)) (fun z=>z.1.toNat) (fun x=>∃ c,x = ci c ∧ PthG (edg es) s n (k + 1) c ∧ c.length = k + 1) ?_ _
   ⟨[s],rfl,⟨by simp,by simp,rfl,fun i hi=>by simp at hi; subst hi; exact hs,fun i h1 h2=>by simp at h2; omega,fun i h=>by simp at h,fun i h=>by simp at h⟩,by simp⟩
  rintro ⟨left,pth⟩ ⟨c,h1,hP,h2⟩
  dsimp only at h1 h2
  subst h1
  subst h2
  have hpos:=hP.pos
  have hle:=hP.le
  by_cases c1:c.length = k + 1
  ·refine .inr ⟨ci c,?_,c,rfl,hP,c1⟩
   simp only [mgraph_Cycle_l4_s]
   rw [if_neg (by simp; omega)]
  ·refine .inl ?_
   -- the last node and what follows
   have hlast:=hP.lt (c.length - 1) (by omega)
   have hlw:IntKind.wrap .i64 (((ci c).length:Int) - 1) = ((c.length - 1:Nat):Int):=by rw [ci_len,wrap_id (by omega) (by omega)]; omega
   have hx:el (ci c) (c.length - 1) = ((el c (c.length - 1):Nat):Int):=ci_el c _ (by omega)
   -- it has a next node that is as near as can be
   have hexact:∀ b,edg es (el c (c.length - 1)) b→∀ j,j < k + 1 - c.length→¬ Tos (edg es) s j b:=by
    intro b hb j hj t
    by_cases e:c.length - 1 = 0
    ·rw [e,hP.head] at hb
     exact hm j (by omega) ⟨b,hb,t⟩
    ·have h3:=hP.tos (c.length - 1) (by omega) (by omega)
     have hgt:s < el c (c.length - 1):=by
      have:k + 1 - (c.length - 1) = (k + 1 - c.length) + 1:=by omega
      rw [this] at h3
      exact h3.1.gt.1
     exact h3.2 (j + 1) (by omega) (.succ hgt hb t)
   have hex:∃ b,edg es (el c (c.length - 1)) b ∧ Tos (edg es) s (k + 1 - c.length) b:=by
    by_cases e:c.length - 1 = 0
    ·obtain ⟨b,hb,t⟩:=hc
     refine ⟨b,by rw [e,hP.head]; exact hb,?_⟩
     rw [show k + 1 - c.length = k by omega]; exact t
    ·have h3:=(hP.tos (c.length - 1) (by omega) (by omega)).1
     rw [show k + 1 - (c.length - 1) = (k + 1 - c.length) + 1 by omega] at h3
     exact h3.gt.2
   have hlen:=adj_len es (el c (c.length - 1))
   have l3:∃ x,mgraph_Cycle_l3 a0 (s:Int) p25 far ((k + 2 - c.length:Nat):Int) (ci c) (rowsG n es) r9 (adj es (el c (c.length - 1))) 0 = some x ∧ ∃ b,x = ci (c ++ [b]) ∧ PthG (edg es) s n (k + 1) (c ++ [b]):=by
    unfold mgraph_Cycle_l3
    obtain ⟨b0,hb0,hb0t⟩:=hex
    obtain ⟨j0,hj0,hj0e⟩:=mem_el (adj_edg.2 hb0)
    refine iter_for (step:=fun w=>mgraph_Cycle_l3_s a0 (s:Int) p25 far ((k + 2 - c.length:Nat):Int) (ci c) (rowsG n es) r9 (adj es (el c (c.length - 1))) w) (fun (j:Nat) (_:Unit)=>(j:Int)) (adj es (el c (c.length - 1))).length
     (fun j _=>∀ i,i < j→∀ b:Nat,el (adj es (el c (c.length - 1))) i = b→¬ Tos (edg es) s (k + 1 - c.length) b) (fun x=>∃ b,x = ci (c ++ [b]) ∧ PthG (edg es) s n (k + 1) (c ++ [b])) ?_ ?_ () (fun i hi=>absurd hi (Nat.not_lt_zero _))
    ·rintro j _ hj hno
     obtain ⟨a,ha,han,hae⟩:=adj_nat hes (el_mem _ j hj)
     have hal:a < far.length:=by rw [hD.1]; exact han
     have hnear:=hexact a hae
     -- the test
     have htest:(s < a ∧ el far a = ((k + 2 - c.length:Nat):Int)) ↔ Tos (edg es) s (k + 1 - c.length) a:=by
      constructor
      ·rintro ⟨q1,q2⟩
       obtain ⟨d,d1,d2,_⟩:=hD.cases han (by omega)
       have:d = k + 1 - c.length:=by omega
       rw [← this]; exact d2
      ·intro t
       have q:=hD.of han t hnear
       refine ⟨?_,by rw [q]; omega⟩
       rw [show k + 1 - c.length = (k - c.length) + 1 by omega] at t
       exact t.gt.1
     simp only [mgraph_Cycle_l3_s,lt_t hj,if_true,at_el _ _ hj,Option.bind_some,ha,Int.toNat_natCast,if_pos (show (0:Int) ≤ (a:Int) ∧ a < far.length from ⟨by omega,hal⟩),get_el far a hal,wrap_succ (show j < 9223372036854775807 by omega)]
     have next:¬ Tos (edg es) s (k + 1 - c.length) a→∀ i,i < j + 1→∀ b:Nat,el (adj es (el c (c.length - 1))) i = b→¬ Tos (edg es) s (k + 1 - c.length) b:=by
      intro hn i hi b hb
      by_cases e:i = j
      ·subst e
       have:b = a:=by rw [ha] at hb; omega
       subst this; exact hn
      ·exact hno i (by omega) b hb
     by_cases t:Tos (edg es) s (k + 1 - c.length) a
     ·obtain ⟨t1,t2⟩:=htest.2 t
      rw [if_pos (decide_eq_true (show (a:Int) > (s:Int) by omega)),if_pos (by rw [t2]; exact beq_self_eq_true _),if_pos (by rw [ci_len]; omega)]
      refine .inr ⟨_,rfl,a,ci_snoc c a,by simp,by simp; omega,?_,?_,?_,?_,?_⟩
      ·rw [el_append_lt _ _ _ hpos]; exact hP.head
      ·intro i hi
       rw [List.length_append,List.length_singleton] at hi
       by_cases e:i = c.length
       ·subst e; rw [el_append_last]; exact han
       ·rw [el_append_lt _ _ _ (by omega)]; exact hP.lt i (by omega)
      ·intro i hi0 hi
       rw [List.length_append,List.length_singleton] at hi
       by_cases e:i = c.length
       ·subst e; rw [el_append_last]; exact ⟨t,hnear⟩
       ·rw [el_append_lt _ _ _ (by omega)]; exact hP.tos i hi0 (by omega)
      ·intro i hi
       rw [List.length_append,List.length_singleton] at hi
       by_cases e:i + 1 = c.length
       ·rw [e,el_append_last,el_append_lt _ _ _ (by omega),show i = c.length - 1 by omega]; exact hae
       ·rw [el_append_lt _ _ _ (by omega),el_append_lt _ _ _ (by omega)]; exact hP.step i (by omega)
      ·intro i hi b hb ht
       rw [List.length_append,List.length_singleton] at hi
       by_cases e:i + 1 = c.length
       ·rw [e,el_append_last]
        rw [el_append_lt _ _ _ (by omega),show i = c.length - 1 by omega] at hb
        rw [e] at ht
        obtain ⟨jb,hjb,hjbe⟩:=mem_el (adj_edg.2 hb)
        rcases Nat.lt_trichotomy jb j with q | q | q
        ·exact absurd ht (hno jb q b hjbe)
        ·subst q; rw [ha] at hjbe; omega
        ·have hp:=adj_asc es (el c (c.length - 1))
         have:=List.pairwise_iff_getElem.1 hp j jb hj hjb q
         rw [← el_lt _ _ hj,← el_lt _ _ hjb,ha,hjbe] at this
         omega
       ·rw [el_append_lt _ _ _ (by omega)] at hb ⊢
        exact hP.least i (by omega) b hb ht
     ·refine .inl ⟨(),?_,next t⟩
      by_cases c2:(a:Int) > (s:Int)
      ·rw [if_pos (decide_eq_true c2),if_neg]
       rw [beq_iff_eq]
       exact fun q=>t (htest.1 ⟨by omega,q⟩)
      ·rw [if_neg (by simpa using c2)]
    ·rintro _ hno
     exact absurd hb0t (hno j0 hj0 b0 hj0e)
   obtain ⟨x,q1,b,rfl,q2⟩:=l3
   refine ⟨(((k + 2 - (c ++ [b]).length:Nat):Int),ci (c ++ [b])),?_,⟨c ++ [b],rfl,q2,rfl⟩,?_⟩
   ·simp only [mgraph_Cycle_l4_s]
    rw [if_pos (decide_eq_true (by omega)),hlw,Int.toNat_natCast,if_pos ⟨by omega,by rw [ci_len]; omega⟩,get_el _ _ (by rw [ci_len]; omega),Option.bind_some,hx,at_row hlast,Option.bind_some,q1,Option.bind_some,wrap_id (by omega) (by omega)]
    congr 3
    rw [List.length_append,List.length_singleton]
    omega
   ·dsimp only
    rw [List.length_append,List.length_singleton]
    omega
 obtain ⟨x,h1,c,rfl,hP,hcl⟩:=l4
 refine ⟨c,?_,?_,hP.head,hcl,hP.lt⟩
 ·unfold mgraph_Cycle_j5
  rw [h1]; rfl
 ·have hh:=hP.head
  refine ⟨hP.pos,?_,hP.step,?_,?_,?_⟩
  ·intro i h1 h2; rw [hh,hcl]; exact (hP.tos i h1 h2).1
  ·intro i hi b hb ht; rw [hh,hcl] at ht; exact hP.least i hi b hb ht
  ·rw [hh,hcl]; exact hc
  ·intro j hj
   rw [hh] at hj
   rw [hcl]
   rcases Nat.lt_or_ge j k with q | q
   ·exact absurd hj (hm j q)
   ·omega
def BestC (E:Nat→Nat→Prop) (t:Nat) (c:List Nat):Prop:=(c = [] ∧ ∀ s,s < t→∀ k,¬ Cl E s k) ∨ (CycG E c ∧ ∀ s,s < t→∀ k,Cl E s k→c.length ≤ k + 1 ∧ (c.length = k + 1→el c 0 ≤ s))
def CycSpec (E:Nat→Nat→Prop) (n:Nat) (c:List Nat):Prop:=BestC E n c ∧ ∀ i,i < c.length→el c i < n
theorem turn_loop {n:Int} {es:List GArr2I} (hl:es.length ≤ 2000):mgraph_Cycle_l1 n es 0 (List.replicate es.length (GArr2I.mk 0 0)) = some (turnG es):=by
 unfold mgraph_Cycle_l1
 have key:∃ x,Iter (fun (w:Int × (List GArr2I))=>mgraph_Cycle_l1_s n es w.1 w.2) (0,List.replicate es.length (GArr2I.mk 0 0)) = some x ∧ x = turnG es:=by
  refine iter_for (step:=fun (w:Int × (List GArr2I))=>mgraph_Cycle_l1_s n es w.1 w.2) (fun (k:Nat) (l:List GArr2I)=>((k:Int),l)) es.length (fun k l=>l.length = es.length ∧ ∀ j,j < k→el l j = ⟨(el es j).e1,(el es j).e0⟩) (fun x=>x = turnG es) ?_ ?_ _ ⟨by simp,fun j hj=>absurd hj (Nat.not_lt_zero _)⟩
  ·rintro k l hk ⟨h1,h2⟩
   refine .inl ⟨l.set k ⟨(el es k).e1,(el es k).e0⟩,?_,by simp [h1],fun j hj=>?_⟩
   ·simp only [mgraph_Cycle_l1_s,lt_t hk,if_true,at_el _ _ hk,Option.bind_some,Int.toNat_natCast,if_pos (show (0:Int) ≤ (k:Int) ∧ k < l.length from ⟨by omega,by omega⟩),get_el l k (by omega),wrap_succ (show k < 9223372036854775807 by omega)]
   ·rw [el_set _ _ _ _ (by omega)]
    by_cases e:j = k
    ·subst e; rw [if_pos rfl]
    ·rw [if_neg e]; exact h2 j (by omega)
  ·rintro l ⟨h1,h2⟩
   refine ⟨l,by simp only [mgraph_Cycle_l1_s,lt_f,if_false],?_⟩
   apply ext_el (by simp [h1,turnG])
   intro i hi
   rw [h2 i (by omega),el_lt (turnG es) i (by simp [turnG]; omega)]
   simp [turnG,el_lt es i (by omega)]
 obtain ⟨x,h1,rfl⟩:=key
 exact h1
theorem CycG.neg {E:Nat→Nat→Prop} {s:Nat} {c:List Nat} (h:BestC E s c) (hc:∀ k,¬ Cl E s k):BestC E (s + 1) c:=by
 rcases h with ⟨rfl,h⟩ | ⟨h1,h2⟩
 ·refine .inl ⟨rfl,fun t ht k=>?_⟩
  by_cases e:t = s
  ·subst e; exact hc k
  ·exact h t (by omega) k
 ·refine .inr ⟨h1,fun t ht k hk=>?_⟩
  by_cases e:t = s
  ·subst e; exact absurd hk (hc k)
  ·exact h2 t (by omega) k hk
theorem bound_of_dist {E:Nat→Nat→Prop} {n s:Nat} {far:List Int} (hD:Dist E s n far) {k:Nat} (hc:Cl E s k) (hm:∀ j,j < k→¬ Cl E s j) (hE:∀ a b,E a b→b < n):k + 1 ≤ n:=by
 obtain ⟨b,h1,h2⟩:=hc
 have hbn:=hE _ _ h1
 rcases hD.2.1 b hbn with ⟨_,q⟩ | ⟨d,q1,q2,q3⟩
 ·exact absurd h2 (q k)
 ·have:=hD.2.2 b
  have:¬ d < k:=fun q=>hm d q ⟨b,h1,q2⟩
  have:¬ k < d:=fun q=>q3 k q h2
  omega
theorem BestC.first {E:Nat→Nat→Prop} {s:Nat} {c:List Nat} (h:∀ t,t < s→∀ k,¬ Cl E t k) (hc:CycG E c) (hs:el c 0 = s):BestC E (s + 1) c:=by
 refine .inr ⟨hc,fun t ht k hk=>?_⟩
 have:t = s:=by
  rcases Nat.lt_or_ge t s with q | q
  ·exact absurd hk (h t q k)
  ·omega
 subst this
 rw [← hs] at hk
 exact ⟨hc.min k hk,fun _=>by omega⟩
theorem BestC.same {E:Nat→Nat→Prop} {s:Nat} {c:List Nat} (hc:CycG E c) (h:∀ t,t < s→∀ k,Cl E t k→c.length ≤ k + 1 ∧ (c.length = k + 1→el c 0 ≤ t)) (hlt:el c 0 < s) (hs:∀ k,Cl E s k→c.length ≤ k + 1):BestC E (s + 1) c:=by
 refine .inr ⟨hc,fun t ht k hk=>?_⟩
 rcases Nat.lt_or_ge t s with q | q
 ·exact h t q k hk
 ·have:t = s:=by omega
  subst this
  exact ⟨hs k hk,fun _=>by omega⟩
theorem BestC.less {E:Nat→Nat→Prop} {s:Nat} {b c:List Nat} (hb:CycG E b) (h:∀ t,t < s→∀ k,Cl E t k→b.length ≤ k + 1 ∧ (b.length = k + 1→el b 0 ≤ t)) (hc:CycG E c) (hs:el c 0 = s) (hlt:c.length < b.length):BestC E (s + 1) c:=by
 refine .inr ⟨hc,fun t ht k hk=>?_⟩
 rcases Nat.lt_or_ge t s with q | q
 ·have:=(h t q k hk).1
  exact ⟨by omega,fun e=>by omega⟩
 ·have:t = s:=by omega
  subst this
  rw [← hs] at hk
  exact ⟨hc.min k hk,fun _=>by omega⟩
theorem Cycle_eq {n:Nat} {es:List GArr2I} (h:rightG n es):∃ c,mgraph_Cycle (n:Int) es = some (ci c) ∧ CycSpec (edg es) n c:=by
 have hes:∀ e ∈ es,inE n e:=by have:=h.2.2; simpa using this
 have hl:=h.2.1
 have hn:n ≤ 300:=by have:=h.1.2; omega
 have hE:∀ a b,edg es a b→b < n:=fun a b e=>(edg_lt hes e).2
 have ht:rightG n (turnG es):=⟨h.1,by simp [turnG]; exact hl,by have:=turn_in hes; simpa using this⟩
 have l8:∀ (s:Nat) (out:List Int) (c:List Nat),s ≤ n→out.length = n→CycG (edg es) c→el c 0 < s→(∀ i,i < c.length→el c i < n)→(∀ t,t < s→∀ k,Cl (edg es) t k→c.length ≤ k + 1 ∧ (c.length = k + 1→el c 0 ≤ t)) →
   ∃ x,mgraph_Cycle_l8 (n:Int) (rowsG n es) (rowsG n (turnG es)) (s:Int) out (ci c) = some x ∧ ∃ c,x = ci c ∧ CycSpec (edg es) n c:=by
  intro s out c hs ho hc hlt hcn hb
  unfold mgraph_Cycle_l8
  refine iter_meas (step:=fun (w:Int × (List Int) × (List Int))=>mgraph_Cycle_l8_s (n:Int) (rowsG n es) (rowsG n (turnG es)) w.1 w.2.1 w.2.2)
   (fun z=>∃ (s:Nat) (c:List Nat),z.1 = (s:Int) ∧ z.2.2 = ci c ∧ s ≤ n ∧ z.2.1.length = n ∧ CycG (edg es) c ∧ el c 0 < s ∧ (∀ i,i < c.length→el c i < n) ∧ (∀ t,t < s→∀ k,Cl (edg es) t k→c.length ≤ k + 1 ∧ (c.length = k + 1→el c 0 ≤ t)))
   (fun z=>n - z.1.toNat) (fun x=>∃ c,x = ci c ∧ CycSpec (edg es) n c) ?_ _ ⟨s,c,rfl,rfl,hs,ho,hc,hlt,hcn,hb⟩
  rintro ⟨p,out,l⟩ ⟨s,c,e1,e2,hs,ho,hc,hlt,hcn,hb⟩
  dsimp only at e1 e2 ho
  subst e1
  subst e2
  by_cases hsn:s < n
  ·refine .inl ?_
   obtain ⟨far,hf,hD⟩:=steps_eq hes hl hn hsn ho
   obtain ⟨r,hr,hL⟩:=least_eq7 hes hl hD (n:Int) (ci c) (rowsG n es) (rowsG n (turnG es))
   have hcpos:=hc.pos
   have hw:IntKind.wrap .i64 ((s:Int) + 1) = ((s + 1:Nat):Int):=wrap_succ (by omega)
   rcases hL with ⟨rfl,hno⟩ | ⟨k,rfl,hk,hmin⟩
   ·refine ⟨(((s + 1:Nat):Int),far,ci c),?_,⟨s + 1,c,rfl,rfl,by omega,hD.1,hc,by omega,hcn,fun t ht k hk=>?_⟩,by dsimp only; omega⟩
    ·simp only [mgraph_Cycle_l8_s]
     rw [if_pos (decide_eq_true (by omega)),hf,Option.bind_some,at_row hsn,Option.bind_some,hr,Option.bind_some,if_pos (by rfl),hw]
    ·by_cases e:t = s
     ·subst e; exact absurd hk (hno k)
     ·exact hb t (by omega) k hk
   ·have hkn:=bound_of_dist hD hk hmin hE
    by_cases c1:k + 1 ≥ c.length
    ·refine ⟨(((s + 1:Nat):Int),far,ci c),?_,⟨s + 1,c,rfl,rfl,by omega,hD.1,hc,by omega,hcn,fun t ht j hj=>?_⟩,by dsimp only; omega⟩
     ·simp only [mgraph_Cycle_l8_s]
      rw [if_pos (decide_eq_true (by omega)),hf,Option.bind_some,at_row hsn,Option.bind_some,hr,Option.bind_some,if_neg (by rw [beq_iff_eq]; omega),if_pos (by rw [ci_len]; exact hcpos),if_pos (decide_eq_true (by rw [ci_len]; omega)),hw]
     ·by_cases e:t = s
      ·subst e
       have:¬ j < k:=fun q=>hmin j q hj
       exact ⟨by omega,fun _=>by omega⟩
      ·exact hb t (by omega) j hj
    ·obtain ⟨c',hp,hc',hh,hcl,hcn'⟩:=path_eq hes hl hsn hD hk hmin (by omega) (n:Int) (s:Int) (rowsG n (turnG es))
     have hB:=BestC.less hc hb hc' hh (by omega)
     refine ⟨(((s + 1:Nat):Int),far,ci c'),?_,⟨s + 1,c',rfl,rfl,by omega,hD.1,hc',by omega,hcn',?_⟩,by dsimp only; omega⟩
     ·simp only [mgraph_Cycle_l8_s]
      rw [if_pos (decide_eq_true (by omega)),hf,Option.bind_some,at_row hsn,Option.bind_some,hr,Option.bind_some,if_neg (by rw [beq_iff_eq]; omega),if_pos (by rw [ci_len]; exact hcpos),if_neg (by simp only [decide_eq_true_eq]; rw [ci_len]; omega),hp,Option.bind_some,hw]
     ·rcases hB with ⟨q,_⟩ | ⟨_,q⟩
      ·rw [q] at hcl; simp at hcl
      ·exact q
  ·have:s = n:=by omega
   subst this
   refine .inr ⟨ci c,?_,c,rfl,.inr ⟨hc,hb⟩,hcn⟩
   simp only [mgraph_Cycle_l8_s,lt_f,if_false]
 have l6:∃ x,mgraph_Cycle_l6 (n:Int) (rowsG n es) (rowsG n (turnG es)) 0 (List.replicate n 0) = some x ∧ ∃ c,(Sum.elim (fun z44:Int × (List Int) × (List Int) =>
    (mgraph_Cycle_l8 (n:Int) (rowsG n es) (rowsG n (turnG es)) z44.1 z44.2.1 z44.2.2).bind fun (r62:(List Int))=>some r62) (fun z45:Unit=>some []) x) = some (ci c) ∧ CycSpec (edg es) n c:=by
  unfold mgraph_Cycle_l6
  refine iter_for (step:=fun (w:Int × (List Int))=>mgraph_Cycle_l6_s (n:Int) (rowsG n es) (rowsG n (turnG es)) w.1 w.2) (fun (s:Nat) (out:List Int)=>((s:Int),out)) n (fun s out=>out.length = n ∧ ∀ t,t < s→∀ k,¬ Cl (edg es) t k) _ ?_ ?_ _ ⟨by simp,fun t ht=>absurd ht (Nat.not_lt_zero _)⟩
  ·rintro s out hsn ⟨ho,hb⟩
   obtain ⟨far,hf,hD⟩:=steps_eq hes hl hn hsn ho
   obtain ⟨r,hr,hL⟩:=least_eq hes hl hD (n:Int) (rowsG n es) (rowsG n (turnG es))
   have hw:IntKind.wrap .i64 ((s:Int) + 1) = ((s + 1:Nat):Int):=wrap_succ (by omega)
   rcases hL with ⟨rfl,hno⟩ | ⟨k,rfl,hk,hmin⟩
   ·refine .inl ⟨far,?_,hD.1,fun t ht k=>?_⟩
    ·simp only [mgraph_Cycle_l6_s]
     rw [if_pos (decide_eq_true (by omega)),hf,Option.bind_some,at_row hsn,Option.bind_some,hr,Option.bind_some,if_pos (by rfl),hw]
    ·by_cases e:t = s
     ·subst e; exact hno k
     ·exact hb t (by omega) k
   ·have hkn:=bound_of_dist hD hk hmin hE
    obtain ⟨c',hp,hc',hh,hcl,hcn'⟩:=path_eq hes hl hsn hD hk hmin (by omega) (n:Int) (s:Int) (rowsG n (turnG es))
    refine .inr ⟨.inl (((s + 1:Nat):Int),far,ci c'),?_,?_⟩
    ·simp only [mgraph_Cycle_l6_s]
     rw [if_pos (decide_eq_true (by omega)),hf,Option.bind_some,at_row hsn,Option.bind_some,hr,Option.bind_some,if_neg (by rw [beq_iff_eq]; omega),hp,Option.bind_some,hw]
    ·have hB:=BestC.first hb hc' hh
     have hB' : ∀ t,t < s + 1→∀ k,Cl (edg es) t k→c'.length ≤ k + 1 ∧ (c'.length = k + 1→el c' 0 ≤ t):=by
      rcases hB with ⟨q,_⟩ | ⟨_,q⟩
      ·rw [q] at hcl; simp at hcl
      ·exact q
     obtain ⟨x,q1,c,rfl,q2⟩:=l8 (s + 1) far c' (by omega) hD.1 hc' (by omega) hcn' hB'
     exact ⟨c,by simp only [Sum.elim_inl]; rw [q1]; rfl,q2⟩
  ·rintro out ⟨ho,hb⟩
   refine ⟨.inr (),?_,[],rfl,.inl ⟨rfl,hb⟩,fun i hi=>by simp at hi⟩
   simp only [mgraph_Cycle_l6_s,lt_f,if_false]
 unfold mgraph_Cycle
 rw [right_eq,Option.bind_some,decide_eq_true h,if_neg (by simp),if_pos (by omega)]
 simp only [Int.toNat_natCast]
 rw [turn_loop hl,Option.bind_some,next_eq h,Option.bind_some,next_eq ht,Option.bind_some,if_pos (by omega)]
 simp only [Int.toNat_natCast]
 obtain ⟨x,q1,c,q2,q3⟩:=l6
 refine ⟨c,?_,q3⟩
 rw [q1,Option.bind_some]
 exact q2
end Go.Proofs.Ytmekbfccmnjdcaa
