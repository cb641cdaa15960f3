/- Layer 6 (graph): the order of the nodes. -/
import Derived.Test.YtlpgfmnicomjjaaPLaw06b
set_option linter.unusedVariables false
set_option linter.unusedSimpArgs false
namespace Go.Proofs.Ytlpgfmnicomjjaa
open Go.RowKit Vm
theorem index_eq (l:List Int) (x:Int) (hl:l.length ≤ 100000):∃ r,mslices_Index_int_int l x = some r ∧ ((r = -1 ∧ ∀ i,i < l.length→el l i ≠ x) ∨ ∃ i:Nat,r = i ∧ i < l.length ∧ el l i = x ∧ ∀ j,j < i→el l j ≠ x):=by
 have l1:∃ z,mslices_Index_int_int_l1 l x 0 = some z ∧ ((z = .inl () ∧ ∀ i,i < l.length→el l i ≠ x) ∨ ∃ i:Nat,z = .inr (i:Int) ∧ i < l.length ∧ el l i = x ∧ ∀ j,j < i→el l j ≠ x):=by
  unfold mslices_Index_int_int_l1
  refine iter_for (step:=fun w=>mslices_Index_int_int_l1_s l x w) (fun (k:Nat) (_:Unit)=>(k:Int)) l.length (fun k _=>∀ i,i < k→el l i ≠ x) _ ?_ ?_ () (fun i hi=>absurd hi (Nat.not_lt_zero _))
  ·rintro k _ hk h
   simp only [mslices_Index_int_int_l1_s,lt_t hk,if_true,at_el _ _ hk,Option.bind_some,wrap_succ (show k < 9223372036854775807 by omega)]
   by_cases c:el l k = x
   ·rw [if_pos (by rw [c]; exact beq_self_eq_true _)]
    exact .inr ⟨_,rfl,.inr ⟨k,rfl,hk,c,h⟩⟩
   ·rw [if_neg (by rw [beq_iff_eq]; exact fun q=>c q.symm)]
    refine .inl ⟨(),rfl,fun i hi=>?_⟩
    by_cases e:i = k
    ·subst e; exact c
    ·exact h i (by omega)
  ·rintro _ h
   exact ⟨.inl (),by simp only [mslices_Index_int_int_l1_s,lt_f,if_false],.inl ⟨rfl,h⟩⟩
 obtain ⟨z,h1,h2⟩:=l1
 unfold mslices_Index_int_int
 rw [h1,Option.bind_some]
 rcases h2 with ⟨rfl,h2⟩ | ⟨i,rfl,h2⟩
 ·exact ⟨-1,rfl,.inl ⟨rfl,h2⟩⟩
 ·exact ⟨i,rfl,.inr ⟨i,rfl,h2⟩⟩
theorem mem_take_succ {l:List Int} {k:Nat} (hk:k < l.length) {x:Int}:x ∈ l.take (k + 1) ↔ x ∈ l.take k ∨ x = el l k:=by
 rw [List.take_add_one,List.getElem?_eq_getElem hk,el_lt l k hk]
 simp only [Option.toList_some,List.mem_append,List.mem_singleton]
theorem asc_not_take {l:List Int} (h:Asc l) {k:Nat} (hk:k < l.length):el l k ∉ l.take k:=by
 intro q
 obtain ⟨j,hj,e⟩:=List.mem_iff_getElem.1 q
 have hj2:j < k:=by rw [List.length_take] at hj; omega
 rw [List.getElem_take] at e
 have:=List.pairwise_iff_getElem.1 h j k (by omega) hk hj2
 rw [el_lt l k hk] at e
 omega
theorem addall {step:Int × List Int→Option ((Int × List Int) ⊕ List Int)} {n:Nat} {l:List Int} {d:Int} (hasc:Asc l) (hnat:∀ x ∈ l,∃ c:Nat,x = c ∧ c < n) (hd:-1 ≤ d ∧ d ≤ 1)
  (h:∀ (k c:Nat) (a:List Int),k < l.length→el l k = (c:Int)→c < a.length→step ((k:Int),a) = some (.inl (((k + 1:Nat):Int),a.set c (IntKind.wrap .i64 (el a c + d))))) (he:∀ a,step ((l.length:Int),a) = some (.inr a))
  (a0:List Int) (h0:a0.length = n) (hb:∀ c,-100000 ≤ el a0 c ∧ el a0 c ≤ 100000):∃ a',Iter step (0,a0) = some a' ∧ a'.length = n ∧ ∀ c:Nat,c < n→el a' c = el a0 c + if (c:Int) ∈ l then d else 0:=by
 refine iter_for (step:=step) (fun (k:Nat) (a:List Int)=>((k:Int),a)) l.length (fun k a=>a.length = n ∧ ∀ c:Nat,c < n→el a c = el a0 c + if (c:Int) ∈ l.take k then d else 0) _ ?_ ?_ a0 ⟨h0,fun c hc=>by simp⟩
 ·rintro k a hk ⟨h1,h2⟩
  obtain ⟨c,hc,hcn⟩:=hnat _ (el_mem l k hk)
  have hno:=asc_not_take hasc hk
  rw [hc] at hno
  have hv:=h2 c hcn
  rw [if_neg hno] at hv
  have hb':=hb c
  refine .inl ⟨_,h k c a hk hc (by omega),by simp [h1],fun j hj=>?_⟩
  rw [el_set _ _ _ _ (by omega)]
  by_cases e:j = c
  ·subst e
   rw [if_pos rfl,if_pos ((mem_take_succ hk).2 (.inr hc.symm)),hv,wrap_id (by omega) (by omega)]
   omega
  ·rw [if_neg e,h2 j hj]
   have:(j:Int) ∈ l.take (k + 1) ↔ (j:Int) ∈ l.take k:=by
    rw [mem_take_succ hk,hc]
    constructor
    ·rintro (q | q)
     ·exact q
     ·omega
    ·exact .inl
   simp only [this]
 ·rintro a ⟨h1,h2⟩
  refine ⟨a,he a,h1,fun c hc=>?_⟩
  rw [h2 c hc,List.take_length]
structure Free (E:Nat→Nat→Prop) (n:Nat) (P:List Nat) (a:Nat):Prop where
 lt:a < n
 new:a ∉ P
 all:∀ b,E b a→b ∈ P
def Gord (E:Nat→Nat→Prop) (n:Nat) (l:List Nat):Prop:=∀ i,i < l.length→Free E n (l.take i) (el l i) ∧ ∀ b,b < el l i→¬ Free E n (l.take i) b
theorem Gord.snoc {E:Nat→Nat→Prop} {n:Nat} {l:List Nat} (h:Gord E n l) {a:Nat} (h1:Free E n l a) (h2:∀ b,b < a→¬ Free E n l b):Gord E n (l ++ [a]):=by
 intro i hi
 rw [List.length_append,List.length_singleton] at hi
 by_cases e:i = l.length
 ·subst e
  rw [List.take_left,el_append_last]
  exact ⟨h1,h2⟩
 ·rw [List.take_append_of_le_length (by omega),el_append_lt _ _ _ (by omega)]
  exact h i (by omega)
theorem Gord.lt {E:Nat→Nat→Prop} {n:Nat} {l:List Nat} (h:Gord E n l) {x:Nat} (hx:x ∈ l):x < n:=by
 obtain ⟨i,hi,rfl⟩:=mem_el hx
 exact (h i hi).1.lt
theorem mem_take_el {l:List Nat} {i x:Nat}:x ∈ l.take i ↔ ∃ j,j < i ∧ j < l.length ∧ el l j = x:=by
 rw [List.mem_take_iff_getElem]
 constructor
 ·rintro ⟨j,hj,rfl⟩
  exact ⟨j,by omega,by omega,el_lt l j (by omega)⟩
 ·rintro ⟨j,h1,h2,rfl⟩
  exact ⟨j,by omega,(el_lt l j h2).symm⟩
theorem Gord.ne {E:Nat→Nat→Prop} {n:Nat} {l:List Nat} (h:Gord E n l) {i j:Nat} (hij:i < j) (hj:j < l.length):el l i ≠ el l j:=by
 intro e
 exact (h j hj).1.new (mem_take_el.2 ⟨i,hij,by omega,e⟩)
theorem Gord.closed {E:Nat→Nat→Prop} {n:Nat} {l:List Nat} (h:Gord E n l) {a b:Nat} (hb:b ∈ l) (e:E a b):a ∈ l:=by
 obtain ⟨i,hi,rfl⟩:=mem_el hb
 exact List.mem_of_mem_take ((h i hi).1.all a e)
theorem Gord.unique {E:Nat→Nat→Prop} {n:Nat} {l m:List Nat} (h:Gord E n l) (k:Gord E n m):∀ i,i ≤ l.length→i ≤ m.length→l.take i = m.take i
 | 0,_,_=>rfl
 | i + 1,h1,h2=>by
  have ih:=Gord.unique h k i (by omega) (by omega)
  have p:=h i (by omega)
  have q:=k i (by omega)
  rw [ih] at p
  have:el l i = el m i:=by
   rcases Nat.lt_trichotomy (el l i) (el m i) with c | c | c
   ·exact absurd p.1 (q.2 _ c)
   ·exact c
   ·exact absurd q.1 (p.2 _ c)
  rw [List.take_add_one,List.take_add_one,ih,List.getElem?_eq_getElem (by omega),List.getElem?_eq_getElem (by omega),← el_lt l i (by omega),← el_lt m i (by omega),this]
def OrdSpec (E:Nat→Nat→Prop) (n:Nat) (r:List Int × Bool):Prop:=(∃ l,r = (ci l,true) ∧ l.length = n ∧ Gord E n l) ∨ (r = ([],false) ∧ ∃ P,P.length < n ∧ Gord E n P ∧ ∀ a,¬ Free E n P a)
theorem OrdSpec.unique {E:Nat→Nat→Prop} {n:Nat} {r s:List Int × Bool} (h:OrdSpec E n r) (k:OrdSpec E n s):r = s:=by
 rcases h with ⟨l,rfl,h1,h2⟩ | ⟨rfl,P,h1,h2,h3⟩
 ·rcases k with ⟨m,rfl,k1,k2⟩ | ⟨rfl,Q,k1,k2,k3⟩
  ·have:=h2.unique k2 n (by omega) (by omega)
   rw [List.take_of_length_le (by omega),List.take_of_length_le (by omega)] at this
   rw [this]
  ·exfalso
   have:=k2.unique h2 Q.length (Nat.le_refl _) (by omega)
   rw [List.take_length] at this
   have q:=(h2 Q.length (by omega)).1
   rw [← this] at q
   exact k3 _ q
 ·rcases k with ⟨m,rfl,k1,k2⟩ | ⟨rfl,Q,k1,k2,k3⟩
  ·exfalso
   have:=h2.unique k2 P.length (Nat.le_refl _) (by omega)
   rw [List.take_length] at this
   have q:=(k2 P.length (by omega)).1
   rw [← this] at q
   exact h3 _ q
  ·rfl
def cntG (es:List GArr2I) (n:Nat) (P:List Nat) (a:Nat):Nat:=(List.range n).countP fun b:Nat=>edgB es (b:Int) (a:Int) && !(P.contains b)
theorem countP_one {p q:Nat→Bool} {i:Nat} (hp:∀ b,b ≠ i→p b = q b) (hq:q i = false):∀ n,(List.range n).countP p = (List.range n).countP q + if i < n ∧ p i = true then 1 else 0
 | 0=>by simp
 | n + 1=>by
  rw [List.range_succ,List.countP_append,List.countP_append,countP_one hp hq n]
  by_cases e:n = i
  ·subst e
   have h1:¬ (n < n ∧ p n = true):=by omega
   rw [if_neg h1]
   by_cases c:p n = true
   ·rw [if_pos ⟨by omega,c⟩]; simp [c,hq]
   ·rw [if_neg (fun x=>c x.2)]; simp [c,hq]
  ·have h1:(i < n + 1 ∧ p i = true) ↔ (i < n ∧ p i = true):=by
    constructor
    ·rintro ⟨a,b⟩; exact ⟨by omega,b⟩
    ·rintro ⟨a,b⟩; exact ⟨by omega,b⟩
   simp only [h1]
   have:[n].countP p = [n].countP q:=by simp [hp n e]
   omega
theorem cnt_snoc {es:List GArr2I} {n:Nat} {P:List Nat} {i a:Nat} (hi:i < n) (hP:i ∉ P):cntG es n P a = cntG es n (P ++ [i]) a + if edgB es (i:Int) (a:Int) = true then 1 else 0:=by
 unfold cntG
 have:=countP_one (p:=fun b:Nat=>edgB es (b:Int) (a:Int) && !(P.contains b)) (q:=fun b:Nat=>edgB es (b:Int) (a:Int) && !((P ++ [i]).contains b)) (i:=i) (fun b hb=>by simp [hb]) (by simp) n
 rw [this]
 congr 1
 have hc:P.contains i = false:=by simpa using hP
 simp [hi,hP]
theorem cnt_zero {es:List GArr2I} {n:Nat} (hes:∀ e ∈ es,inE n e) {P:List Nat} {a:Nat}:cntG es n P a = 0 ↔ ∀ b,edg es b a→b ∈ P:=by
 unfold cntG
 rw [List.countP_eq_zero]
 constructor
 ·intro h b hb
  have:=h b (List.mem_range.2 (edg_lt hes hb).1)
  rw [edgB_edg.2 hb] at this
  simpa using this
 ·intro h b hb
  simp only [Bool.and_eq_true,Bool.not_eq_true',not_and,Bool.not_eq_false]
  intro q
  have:=h b (edgB_edg.1 q)
  simpa using this
theorem cnt_le (es:List GArr2I) (n:Nat) (P:List Nat) (a:Nat):cntG es n P a ≤ n:=by
 unfold cntG
 have:=List.countP_le_length (p:=fun b:Nat=>edgB es (b:Int) (a:Int) && !(P.contains b)) (l:=List.range n)
 simpa using this
def befG (es:List GArr2I) (n:Nat) (P:List Nat) (bef:List Int):Prop:=bef.length = n ∧ ∀ a:Nat,a < n→el bef a = if a ∈ P then -1 else (cntG es n P a:Int)
theorem bef_bound {es:List GArr2I} {n:Nat} {P:List Nat} {bef:List Int} (h:befG es n P bef) (hn:n ≤ 300) (c:Nat):-100000 ≤ el bef c ∧ el bef c ≤ 100000:=by
 by_cases hc:c < n
 ·have h1:=h.2 c hc
  have h2:=cnt_le es n P c
  split at h1 <;> omega
 ·have:el bef c = 0:=by simp [el,List.getD_eq_getElem?_getD,List.getElem?_eq_none (show bef.length ≤ c by have:=h.1; omega)]
  omega
theorem bef_start {n:Nat} {es:List GArr2I} (hes:∀ e ∈ es,inE n e) (hl:es.length ≤ 2000) (hn:n ≤ 300):∃ bef,mgraph_Order_l2 (n:Int) (rowsG n es) 0 (List.replicate n 0) = some bef ∧ befG es n [] bef:=by
 unfold mgraph_Order_l2
 refine iter_for (step:=fun (w:Int × (List Int))=>mgraph_Order_l2_s (n:Int) (rowsG n es) w.1 w.2) (fun (k:Nat) (b:List Int)=>((k:Int),b)) n (fun k b=>b.length = n ∧ ∀ a:Nat,a < n→el b a = ((List.range k).countP fun c:Nat=>edgB es (c:Int) (a:Int):Nat)) _ ?_ ?_ _ ⟨by simp,fun a ha=>by rw [el_replicate _ _ _ ha]; rfl⟩
 ·rintro k b hk ⟨h1,h2⟩
  have hlen:=adj_len es k
  obtain ⟨b',q1,q2,q3⟩:=addall (step:=fun (w:Int × (List Int))=>mgraph_Order_l1_s (n:Int) (k:Int) (rowsG n es) (adj es k) w.1 w.2) (n:=n) (d:=1) (adj_asc es k) (fun x hx=>by obtain ⟨c,e1,e2,_⟩:=adj_nat hes hx; exact ⟨c,e1,e2⟩) (by omega)
   (fun j c a hj hc hca=>by
    simp only [mgraph_Order_l1_s,lt_t hj,if_true,at_el _ _ hj,Option.bind_some,hc,Int.toNat_natCast,if_pos (show (0:Int) ≤ (c:Int) ∧ c < a.length from ⟨by omega,hca⟩),get_el a c hca,wrap_succ (show j < 9223372036854775807 by omega)])
   (fun a=>by simp only [mgraph_Order_l1_s,lt_f,if_false]) b h1 (fun c=>by
    by_cases hc:c < n
    ·rw [h2 c hc]
     have:=List.countP_le_length (p:=fun c' : Nat=>edgB es (c' : Int) (c:Int)) (l:=List.range k)
     simp only [List.length_range] at this
     omega
    ·have:el b c = 0:=by simp [el,List.getD_eq_getElem?_getD,List.getElem?_eq_none (show b.length ≤ c by omega)]
     omega)
  refine .inl ⟨b',?_,q2,fun a ha=>?_⟩
  ·simp only [mgraph_Order_l2_s,rowsG_len,lt_t hk,if_true,at_row hk,Option.bind_some,wrap_succ (show k < 9223372036854775807 by omega)]
   have:mgraph_Order_l1 (n:Int) (k:Int) (rowsG n es) (adj es k) 0 b = some b':=q1
   rw [this]; rfl
  ·rw [q3 a ha,h2 a ha,List.range_succ,List.countP_append]
   by_cases c:edgB es (k:Int) (a:Int) = true
   ·rw [if_pos (adj_edg.2 (edgB_edg.1 c))]; simp [c]
   ·rw [if_neg (fun q=>c (edgB_edg.2 (adj_edg.1 q)))]; simp [c]
 ·rintro b ⟨h1,h2⟩
  refine ⟨b,by simp only [mgraph_Order_l2_s,rowsG_len,lt_f,if_false],h1,fun a ha=>?_⟩
  rw [h2 a ha,if_neg (by simp)]
  congr 1
  unfold cntG
  congr 1
  funext c
  simp
theorem Order_eq {n:Nat} {es:List GArr2I} (h:rightG n es):∃ r,mgraph_Order (n:Int) es = some r ∧ OrdSpec (edg es) n r:=by
 have hes:∀ e ∈ es,inE n e:=by have:=h.2.2; simpa using this
 have hl:=h.2.1
 have hn:n ≤ 300:=by have:=h.1.2; omega
 obtain ⟨bef,hb1,hb2⟩:=bef_start hes hl hn
 have l4:∃ x,mgraph_Order_l4 (n:Int) (rowsG n es) bef [] = some x ∧ OrdSpec (edg es) n (Sum.elim (fun z30:List Int=>(z30,true)) (fun z31:List Int=>([],false)) x):=by
  unfold mgraph_Order_l4
  refine iter_meas (step:=fun (w:(List Int) × (List Int))=>mgraph_Order_l4_s (n:Int) (rowsG n es) w.1 w.2) (fun z=>∃ P,z.2 = ci P ∧ P.length ≤ n ∧ Gord (edg es) n P ∧ befG es n P z.1) (fun z=>n - z.2.length) (fun x=>OrdSpec (edg es) n (Sum.elim (fun z30:List Int=>(z30,true)) (fun z31:List Int=>([],false)) x)) ?_ (bef,[]) ⟨[],rfl,Nat.zero_le _,fun i hi=>by simp at hi,hb2⟩
  rintro ⟨b,out⟩ ⟨P,h1,h2,h3,h4⟩
  dsimp only at h1 h4
  subst h1
  by_cases c1:P.length < n
  ·obtain ⟨r,hr,hr2⟩:=index_eq b 0 (by have:=h4.1; omega)
   rcases hr2 with ⟨rfl,hno⟩ | ⟨i,rfl,hi,hi0,hmin⟩
   ·refine .inr ⟨.inr (ci P),?_,.inr ⟨rfl,P,c1,h3,fun a ha=>?_⟩⟩
    ·simp only [mgraph_Order_l4_s,ci_len]
     rw [if_pos (decide_eq_true (by omega)),hr,Option.bind_some,if_pos (by decide)]
    ·have q:=hno a (by have:=h4.1; have:=ha.lt; omega)
     rw [h4.2 a ha.lt,if_neg ha.new,(cnt_zero hes).2 ha.all] at q
     exact q rfl
   ·have hin:i < n:=by have:=h4.1; omega
    have hb0:=h4.2 i hin
    rw [hi0] at hb0
    have hiP:i ∉ P:=by
     intro q
     rw [if_pos q] at hb0
     omega
    rw [if_neg hiP] at hb0
    have hall:=(cnt_zero (P:=P) (a:=i) hes).1 (by omega)
    have hfree:Free (edg es) n P i:=⟨hin,hiP,hall⟩
    have hleast:∀ c,c < i→¬ Free (edg es) n P c:=by
     intro c hc hf
     have q:=hmin c hc
     rw [h4.2 c hf.lt,if_neg hf.new,(cnt_zero hes).2 hf.all] at q
     exact q rfl
    have hG:=h3.snoc hfree hleast
    have hlen:=adj_len es i
    have hself:¬ edg es i i:=fun q=>hiP (hall i q)
    obtain ⟨b',q1,q2,q3⟩:=addall (step:=fun (w:Int × (List Int))=>mgraph_Order_l3_s (n:Int) (ci P) (i:Int) (rowsG n es) (adj es i) w.1 w.2) (n:=n) (d:=-1) (adj_asc es i) (fun x hx=>by obtain ⟨c,e1,e2,_⟩:=adj_nat hes hx; exact ⟨c,e1,e2⟩) (by omega)
     (fun j c a hj hc hca=>by
      simp only [mgraph_Order_l3_s,lt_t hj,if_true,at_el _ _ hj,Option.bind_some,hc,Int.toNat_natCast,if_pos (show (0:Int) ≤ (c:Int) ∧ c < a.length from ⟨by omega,hca⟩),get_el a c hca,wrap_succ (show j < 9223372036854775807 by omega)]
      rfl)
     (fun a=>by simp only [mgraph_Order_l3_s,lt_f,if_false]) (b.set i (-1)) (by simp [h4.1]) (fun c=>by
      rw [el_set _ _ _ _ hi]
      have:=bef_bound h4 hn c
      split <;> omega)
    have hB:befG es n (P ++ [i]) b':=by
     refine ⟨q2,fun a ha=>?_⟩
     rw [q3 a ha,el_set _ _ _ _ hi]
     by_cases e:a = i
     ·subst e
      rw [if_pos rfl,if_pos (List.mem_append.2 (.inr (List.mem_singleton.2 rfl))),if_neg (fun q=>hself (adj_edg.1 q))]; rfl
     ·rw [if_neg e,h4.2 a ha]
      by_cases ca:a ∈ P
      ·rw [if_pos ca,if_pos (List.mem_append.2 (.inl ca)),if_neg (fun q=>hiP (h3.closed ca (adj_edg.1 q)))]; rfl
      ·have hmem:¬ a ∈ P ++ [i]:=fun q=>by
        rcases List.mem_append.1 q with q | q
        ·exact ca q
        ·exact e (List.mem_singleton.1 q)
       rw [if_neg ca,if_neg hmem,cnt_snoc (a:=a) hin hiP]
       by_cases ce:edgB es (i:Int) (a:Int) = true
       ·rw [if_pos ce,if_pos (adj_edg.2 (edgB_edg.1 ce))]; omega
       ·rw [if_neg ce,if_neg (fun q=>ce (edgB_edg.2 (adj_edg.1 q)))]; omega
    refine .inl ⟨(b',ci P ++ [(i:Int)]),?_,⟨P ++ [i],ci_snoc P i,by simp; omega,hG,hB⟩,?_⟩
    ·simp only [mgraph_Order_l4_s,ci_len]
     have:mgraph_Order_l3 (n:Int) (ci P) (i:Int) (rowsG n es) (adj es i) 0 (b.set i (-1)) = some b':=q1
     rw [if_pos (decide_eq_true (by omega)),hr,Option.bind_some,if_neg (by simp),Int.toNat_natCast,if_pos ⟨by omega,hi⟩,get_el b i hi,Option.bind_some,if_pos (by omega),at_row hin,Option.bind_some,this]
     rfl
    ·dsimp only
     rw [List.length_append,ci_len,List.length_singleton]
     omega
  ·refine .inr ⟨.inl (ci P),?_,.inl ⟨P,rfl,by omega,h3⟩⟩
   simp only [mgraph_Order_l4_s,ci_len]
   rw [if_neg (by simp; omega)]
 obtain ⟨x,q1,q2⟩:=l4
 unfold mgraph_Order
 rw [right_eq,Option.bind_some,decide_eq_true h,if_neg (by simp),next_eq h,Option.bind_some,if_pos (by omega)]
 simp only [Int.toNat_natCast]
 rw [hb1,Option.bind_some,q1,Option.bind_some]
 cases x with
 | inl z=>exact ⟨_,rfl,q2⟩
 | inr z=>exact ⟨_,rfl,q2⟩
end Go.Proofs.Ytlpgfmnicomjjaa
