/- Layer 6 (graph): what is reached. -/
import Derived.Test.YtmekbfccmnjdcaaLoops3
import Derived.Test.YtmekbfccmnjdcaaFn
import Derived.Test.YtmekbfccmnjdcaaNextS
set_option linter.unusedVariables false
set_option linter.unusedSimpArgs false
namespace Go.Proofs.Ytmekbfccmnjdcaa
open Go.RowKit Vm
theorem get_el {α:Type} [Inhabited α] (l:List α) (i:Nat) (h:i < l.length):l[i]? = some (el l i):=by rw [List.getElem?_eq_getElem h,el_lt l i h]
theorem el_set {α:Type} [Inhabited α] (l:List α) (i j:Nat) (x:α) (h:i < l.length):el (l.set i x) j = if j = i then x else el l j:=by
 unfold el
 rw [List.getD_eq_getElem?_getD,List.getD_eq_getElem?_getD,List.getElem?_set]
 by_cases e:i = j
 ·subst e; simp [h]
 ·rw [if_neg e,if_neg (fun q=>e q.symm)]
theorem el_append_last {α:Type} [Inhabited α] (l:List α) (x:α):el (l ++ [x]) l.length = x:=by simp [el]
theorem el_append_lt {α:Type} [Inhabited α] (l:List α) (x:α) (i:Nat) (h:i < l.length):el (l ++ [x]) i = el l i:=by
 unfold el
 rw [List.getD_eq_getElem?_getD,List.getD_eq_getElem?_getD,List.getElem?_append_left h]
theorem el_replicate {α:Type} [Inhabited α] (n i:Nat) (x:α) (h:i < n):el (List.replicate n x) i = x:=by simp [el,h]
theorem slice_tail {α:Type} (x:α) (l:List α):sliceL (x :: l) 1 ((x :: l).length:Int) = l:=by
 unfold sliceL
 simp
theorem slice_ok1 {α:Type} (x:α) (l:List α):sliceOk (x :: l).length 1 ((x :: l).length:Int):=by
 unfold sliceOk
 simp only [List.length_cons]
 omega
theorem ext_el {α:Type} [Inhabited α] {l m:List α} (h:l.length = m.length) (e:∀ i,i < l.length→el l i = el m i):l = m:=by
 apply List.ext_getElem h
 intro i h1 h2
 have:=e i h1
 rwa [el_lt l i h1,el_lt m i h2] at this
def prs (es:List GArr2I):List (Int × Int):=es.map fun e=>(e.e0,e.e1)
def edg (es:List GArr2I) (a b:Nat):Prop:=∃ e ∈ es,e.e0 = (a:Int) ∧ e.e1 = (b:Int)
def inE (n:Nat) (e:GArr2I):Prop:=(0 ≤ e.e0 ∧ e.e0 < (n:Int)) ∧ (0 ≤ e.e1 ∧ e.e1 < (n:Int))
instance (n:Nat) (e:GArr2I):Decidable (inE n e):=by unfold inE; exact inferInstance
def rightG (n:Int) (es:List GArr2I):Prop:=(0 ≤ n ∧ n ≤ 300) ∧ es.length ≤ 2000 ∧ ∀ e ∈ es,inE n.toNat e
instance (n:Int) (es:List GArr2I):Decidable (rightG n es):=by unfold rightG; exact inferInstance
theorem all_el {α:Type} [Inhabited α] {l:List α} {p:α→Prop}:(∀ x ∈ l,p x) ↔ ∀ i,i < l.length→p (el l i):=by
 constructor
 ·intro h i hi
  exact h _ (el_mem l i hi)
 ·intro h x hx
  obtain ⟨i,hi,rfl⟩:=mem_el hx
  exact h i hi
theorem right_scan {step:Int→Option (Int ⊕ (Unit ⊕ Unit))} (n:Nat) (es:List GArr2I) (hl:es.length ≤ 2000)
  (h:∀ i:Nat,i < es.length→step (i:Int) = some (if inE n (el es i) then .inl ((i + 1:Nat):Int) else .inr (.inr ()))) (he:step (es.length:Int) = some (.inr (.inl ()))) :
  Iter step 0 = some (if ∀ e ∈ es,inE n e then .inl () else .inr ()):=by
 have:=iter_all? (step:=step) (fun i:Nat=>(i:Int)) es.length (fun i=>decide (inE n (el es i))) () (fun i hi=>by rw [h i hi]; simp) he
 rw [show ((0:Nat):Int) = 0 from rfl] at this
 rw [this]
 by_cases c:∀ e ∈ es,inE n e
 ·rw [if_pos c,if_pos (allN_iff.2 fun i hi=>decide_eq_true (all_el.1 c i hi))]
 ·rw [if_neg c,if_neg]
  intro q
  exact c (all_el.2 fun i hi=>of_decide_eq_true (allN_iff.1 q i hi))
theorem inE_not {n:Nat} {e:GArr2I}:¬ inE n e ↔ e.e0 < 0 ∨ e.e0 ≥ (n:Int) ∨ e.e1 < 0 ∨ e.e1 ≥ (n:Int):=by
 unfold inE
 omega
theorem right_eq (n:Int) (es:List GArr2I):mgraph_right n es = some (decide (rightG n es)):=by
 unfold mgraph_right
 by_cases h0:n < 0
 ·rw [if_pos (decide_eq_true h0),decide_eq_false (fun q=>by have:=q.1.1; omega)]
 rw [if_neg (by simpa using h0)]
 by_cases h1:n > 300
 ·rw [if_pos (decide_eq_true h1),decide_eq_false (fun q=>by have:=q.1.2; omega)]
 rw [if_neg (by simpa using h1)]
 by_cases h2:(es.length:Int) > 2000
 ·rw [if_pos (decide_eq_true h2),decide_eq_false (fun q=>by have:=q.2.1; omega)]
 rw [if_neg (by simpa using h2)]
 have hl:es.length ≤ 2000:=by omega
 have hn:((n.toNat:Nat):Int) = n:=Int.toNat_of_nonneg (by omega)
 have l1:mgraph_right_l1 n es 0 = some (if ∀ e ∈ es,inE n.toNat e then .inl () else .inr ()):=by
  unfold mgraph_right_l1
  refine right_scan n.toNat es hl ?_ ?_
  ·intro i hi
   simp only [mgraph_right_l1_s,lt_t hi,if_true,at_el _ _ hi,Option.bind_some,wrap_succ (show i < 9223372036854775807 by omega)]
   by_cases c:inE n.toNat (el es i)
   ·have:=c
    unfold inE at this
    rw [hn] at this
    rw [if_pos c,if_neg (by simp; omega),if_neg (by simp; omega),if_neg (by simp; omega),if_neg (by simp; omega)]
   ·rw [if_neg c]
    have:=inE_not.1 c
    rw [hn] at this
    by_cases c1:(el es i).e0 < 0
    ·rw [if_pos (decide_eq_true c1)]
    rw [if_neg (by simpa using c1)]
    by_cases c2:(el es i).e0 ≥ n
    ·rw [if_pos (decide_eq_true c2)]
    rw [if_neg (by simpa using c2)]
    by_cases c3:(el es i).e1 < 0
    ·rw [if_pos (decide_eq_true c3)]
    rw [if_neg (by simpa using c3),if_pos (decide_eq_true (by omega))]
  ·simp only [mgraph_right_l1_s,lt_f,if_false]
 rw [l1]
 by_cases c:∀ e ∈ es,inE n.toNat e
 ·rw [if_pos c,decide_eq_true (show rightG n es from ⟨⟨by omega,by omega⟩,hl,c⟩)]; rfl
 ·rw [if_neg c,decide_eq_false (fun q=>c q.2.2)]; rfl
def adj (es:List GArr2I) (a:Nat):List Int:=sortU (rowN (prs es) (a:Int))
theorem mem_adj {es:List GArr2I} {a:Nat} {b:Int}:b ∈ adj es a ↔ ∃ e ∈ es,e.e0 = (a:Int) ∧ e.e1 = b:=by
 unfold adj rowN prs
 rw [mem_sortU,List.mem_map]
 constructor
 ·rintro ⟨p,hp,rfl⟩
  obtain ⟨h1,h2⟩:=List.mem_filter.1 hp
  obtain ⟨e,he,rfl⟩:=List.mem_map.1 h1
  exact ⟨e,he,by simpa using h2,rfl⟩
 ·rintro ⟨e,he,h1,rfl⟩
  exact ⟨(e.e0,e.e1),List.mem_filter.2 ⟨List.mem_map.2 ⟨e,he,rfl⟩,by simpa using h1⟩,rfl⟩
theorem adj_edg {es:List GArr2I} {a b:Nat}:(b:Int) ∈ adj es a ↔ edg es a b:=mem_adj
theorem adj_asc (es:List GArr2I) (a:Nat):Asc (adj es a):=asc_sortU _
theorem adj_nat {n:Nat} {es:List GArr2I} (h:∀ e ∈ es,inE n e) {a:Nat} {b:Int} (hb:b ∈ adj es a):∃ c:Nat,b = c ∧ c < n ∧ edg es a c:=by
 obtain ⟨e,he,h1,rfl⟩:=mem_adj.1 hb
 have h2:=(h e he).2
 exact ⟨e.e1.toNat,by omega,by omega,e,he,h1,by omega⟩
theorem edg_lt {n:Nat} {es:List GArr2I} (h:∀ e ∈ es,inE n e) {a b:Nat} (he:edg es a b):a < n ∧ b < n:=by
 obtain ⟨e,he,h1,h2⟩:=he
 have:=h e he
 unfold inE at this
 omega
theorem adj_len (es:List GArr2I) (a:Nat):(adj es a).length ≤ es.length:=by
 have key:∀ l s:List Int,(l.foldl (fun s x=>insU x s) s).length ≤ l.length + s.length:=by
  intro l
  induction l with
  | nil=>intro s; simp
  | cons x l ih =>
   intro s
   have h1:=ih (insU x s)
   have h2:(insU x s).length ≤ s.length + 1:=by
    clear h1
    induction s with
    | nil=>simp [insU]
    | cons y s ih2 =>
     unfold insU
     split
     ·simp
     ·split
      ·simp
      ·simp only [List.length_cons]; omega
   simp only [List.foldl_cons,List.length_cons]
   omega
 have:=key (rowN (prs es) (a:Int)) []
 have h2:(rowN (prs es) (a:Int)).length ≤ es.length:=by
  unfold rowN prs
  rw [List.length_map]
  have:=List.length_filter_le (fun e:Int × Int=>e.1 == (a:Int)) (es.map fun e=>(e.e0,e.e1))
  simpa using this
 unfold adj sortU
 simp at this
 omega
def rowsG (n:Nat) (es:List GArr2I):List (List Int):=nextL n (prs es)
theorem rowsG_len (n:Nat) (es:List GArr2I):(rowsG n es).length = n:=by simp [rowsG,nextL]
theorem at_row {n:Nat} {es:List GArr2I} {a:Nat} (h:a < n):at? (rowsG n es) (a:Int) = some (adj es a):=by
 rw [at?_lt _ _ (by rw [rowsG_len]; exact h)]
 simp [rowsG,nextL,adj]
theorem next_eq {n:Int} {es:List GArr2I} (h:rightG n es):mgraph_next n es = some (rowsG n.toNat es):=by
 unfold mgraph_next
 have hn:((n.toNat:Nat):Int) = n:=Int.toNat_of_nonneg h.1.1
 rw [if_pos]
 ·rfl
 ·unfold okE
  rw [Bool.and_eq_true]
  refine ⟨decide_eq_true ⟨h.1.1,by have:=h.1.2; omega,by have:=h.2.1; simp; omega⟩,List.all_eq_true.2 fun p hp=>?_⟩
  obtain ⟨e,he,rfl⟩:=List.mem_map.1 hp
  have:=(h.2.2 e he).1
  rw [hn] at this
  exact decide_eq_true this
inductive Rch (E:Nat→Nat→Prop) (a:Nat):Nat→Prop
 | refl:Rch E a a
 | tail {b c:Nat}:Rch E a b→E b c→Rch E a c
theorem Rch.trans {E:Nat→Nat→Prop} {a b c:Nat} (h:Rch E a b) (k:Rch E b c):Rch E a c:=by
 induction k with
 | refl=>exact h
 | tail _ e ih=>exact ih.tail e
theorem Rch.head {E:Nat→Nat→Prop} {a b c:Nat} (h:E a b) (k:Rch E b c):Rch E a c:=(Rch.tail .refl h).trans k
theorem Rch.mono {E F:Nat→Nat→Prop} (h:∀ a b,E a b→F a b) {a b:Nat} (k:Rch E a b):Rch F a b:=by
 induction k with
 | refl=>exact .refl
 | tail _ e ih=>exact ih.tail (h _ _ e)
theorem Rch.closed {E:Nat→Nat→Prop} {a b:Nat} (P:Nat→Prop) (h0:P a) (h:∀ x y,P x→E x y→P y) (k:Rch E a b):P b:=by
 induction k with
 | refl=>exact h0
 | tail _ e ih=>exact h _ _ ih e
noncomputable def rchB (es:List GArr2I) (a b:Nat):Bool:=@decide (Rch (edg es) a b) (Classical.propDecidable _)
theorem rchB_iff {es:List GArr2I} {a b:Nat}:rchB es a b = true ↔ Rch (edg es) a b:=by unfold rchB; exact @decide_eq_true_iff _ (Classical.propDecidable _)
noncomputable def reachL (n:Nat) (es:List GArr2I) (a:Nat):List Bool:=(List.range n).map fun i=>rchB es a i
theorem reachL_len (n:Nat) (es:List GArr2I) (a:Nat):(reachL n es a).length = n:=by simp [reachL]
theorem reachL_el {n:Nat} {es:List GArr2I} {a i:Nat} (h:i < n):el (reachL n es a) i = rchB es a i:=by
 rw [el_lt _ _ (by rw [reachL_len]; exact h)]
 simp [reachL]
def unm (out:List Bool):Nat:=out.count false
theorem unm_set {out:List Bool} {i:Nat} (h:i < out.length) (hf:el out i = false):unm (out.set i true) + 1 = unm out:=by
 unfold unm
 rw [List.count_set h]
 rw [el_lt _ _ h] at hf
 have:0 < out.count false:=List.count_pos_iff.2 (by rw [← hf]; exact List.getElem_mem h)
 simp [hf]
 omega
structure Mrk (n:Nat) (es:List GArr2I) (from_:Nat) (busy:Nat→Prop) (out:List Bool) (q:List Int):Prop where
 len:out.length = n
 sound:∀ i,i < n→el out i = true→Rch (edg es) from_ i
 start:el out from_ = true
 queue:∀ x ∈ q,∃ i:Nat,x = i ∧ i < n ∧ el out i = true
 done:∀ i,i < n→el out i = true→(i:Int) ∉ q→¬ busy i→∀ j,edg es i j→el out j = true
theorem reach_inner {n:Nat} {es:List GArr2I} (hes:∀ e ∈ es,inE n e) {f a:Nat} {out:List Bool} {q:List Int} (hM:Mrk n es f (· = a) out q) (ha:el out a = true) (han:a < n) (hq:2 * unm out + q.length ≤ 100000) (hl:es.length ≤ 2000) :
  ∃ x:List Bool × List Int,mgraph_reach_l1 (rowsG n es) (adj es a) 0 out q = some x ∧ Mrk n es f (fun _=>False) x.1 x.2 ∧ 2 * unm x.1 + x.2.length ≤ 2 * unm out + q.length:=by
 have hlen:=adj_len es a
 unfold mgraph_reach_l1
 have key:=iter_for (step:=fun (w:Int × (List Bool) × (List Int))=>mgraph_reach_l1_s (rowsG n es) (adj es a) w.1 w.2.1 w.2.2) (fun (k:Nat) (s:List Bool × List Int)=>((k:Int),s.1,s.2)) (adj es a).length
  (fun k s=>Mrk n es f (· = a) s.1 s.2 ∧ (∀ i,i < n→el out i = true→el s.1 i = true) ∧ (∀ j,j < k→∃ c:Nat,el (adj es a) j = c ∧ el s.1 c = true) ∧ 2 * unm s.1 + s.2.length ≤ 2 * unm out + q.length)
  (fun x=>Mrk n es f (fun _=>False) x.1 x.2 ∧ 2 * unm x.1 + x.2.length ≤ 2 * unm out + q.length)
  ?_ ?_ (out,q) ⟨hM,fun _ _ h=>h,fun j hj=>absurd hj (Nat.not_lt_zero _),Nat.le_refl _⟩
 ·obtain ⟨x,h1,h2⟩:=key
  exact ⟨x,h1,h2⟩
 ·rintro k ⟨o,qq⟩ hk ⟨hm,hmono,hdone,hmu⟩
  refine .inl ?_
  obtain ⟨c,hc,hcn,hce⟩:=adj_nat hes (el_mem (adj es a) k hk)
  have hcl:c < o.length:=by have:=hm.len; dsimp only at this; omega
  have hlq:qq.length ≤ 100000:=by dsimp only at hmu; omega
  simp only [mgraph_reach_l1_s,lt_t hk,if_true,at_el _ _ hk,Option.bind_some,hc,Int.toNat_natCast,if_pos (show (0:Int) ≤ (c:Int) ∧ c < o.length from ⟨by omega,hcl⟩),get_el o c hcl,wrap_succ (show k < 9223372036854775807 by omega)]
  cases hb:el o c with
  | true =>
   simp only [Bool.not_true,Bool.false_eq_true,if_false]
   refine ⟨(o,qq),rfl,hm,hmono,fun j hj=>?_,hmu⟩
   by_cases e:j = k
   ·subst e; exact ⟨c,hc,hb⟩
   ·exact hdone j (by omega)
  | false =>
   simp only [Bool.not_false,if_true]
   rw [if_pos (by omega)]
   refine ⟨(o.set c true,qq ++ [(c:Int)]),rfl,⟨by simp [hm.len],?_,?_,?_,?_⟩,?_,?_,?_⟩
   ·intro i hi h
    dsimp only at h
    rw [el_set _ _ _ _ hcl] at h
    split at h
    ·rename_i e; subst e
     exact (hm.sound a han (hmono a han ha)).tail hce
    ·exact hm.sound i hi h
   ·show el (o.set c true) f = true
    rw [el_set _ _ _ _ hcl]
    split
    ·rfl
    ·exact hm.start
   ·intro x hx
    rcases List.mem_append.1 hx with h | h
    ·obtain ⟨i,h1,h2,h3⟩:=hm.queue x h
     refine ⟨i,h1,h2,?_⟩
     show el (o.set c true) i = true
     rw [el_set _ _ _ _ hcl]
     split
     ·rfl
     ·exact h3
    ·rw [List.mem_singleton] at h
     exact ⟨c,h,hcn,by show el (o.set c true) c = true; rw [el_set _ _ _ _ hcl,if_pos rfl]⟩
   ·intro i hi h hn hbz j hj
    show el (o.set c true) j = true
    dsimp only at h hn
    rw [el_set _ _ _ _ hcl] at h ⊢
    have hne:i ≠ c:=fun e=>by subst e; exact hn (List.mem_append.2 (.inr (List.mem_singleton.2 rfl)))
    rw [if_neg hne] at h
    split
    ·rfl
    ·exact hm.done i hi h (fun q=>hn (List.mem_append.2 (.inl q))) hbz j hj
   ·intro i hi h
    show el (o.set c true) i = true
    rw [el_set _ _ _ _ hcl]
    split
    ·rfl
    ·exact hmono i hi h
   ·intro j hj
    by_cases e:j = k
    ·subst e
     exact ⟨c,hc,by show el (o.set c true) c = true; rw [el_set _ _ _ _ hcl,if_pos rfl]⟩
    ·obtain ⟨d,h1,h2⟩:=hdone j (by omega)
     refine ⟨d,h1,?_⟩
     show el (o.set c true) d = true
     rw [el_set _ _ _ _ hcl]
     split
     ·rfl
     ·exact h2
   ·have:=unm_set hcl hb
    dsimp only at hmu ⊢
    rw [List.length_append,List.length_singleton]
    omega
 ·rintro ⟨o,qq⟩ ⟨hm,hmono,hdone,hmu⟩
  refine ⟨(o,qq),?_,⟨hm.len,hm.sound,hm.start,hm.queue,?_⟩,hmu⟩
  ·simp only [mgraph_reach_l1_s,lt_f,if_false]
  ·intro i hi h hn _ j hj
   by_cases e:i = a
   ·subst e
    obtain ⟨k,hk,hk2⟩:=mem_el (adj_edg.2 hj)
    obtain ⟨c,h1,h2⟩:=hdone k hk
    have:c = j:=by rw [h1] at hk2; omega
    subst this
    exact h2
   ·exact hm.done i hi h hn e j hj
theorem reach_eq {n:Nat} {es:List GArr2I} (hes:∀ e ∈ es,inE n e) (hl:es.length ≤ 2000) (hn:n ≤ 300) {f:Nat} (hf:f < n):mgraph_reach (rowsG n es) (f:Int) = some (reachL n es f):=by
 unfold mgraph_reach
 rw [rowsG_len,if_pos (by omega)]
 simp only [Int.toNat_natCast,List.length_replicate]
 rw [if_pos ⟨by omega,hf⟩,List.getElem?_replicate,if_pos hf,Option.bind_some]
 have hlr:(List.replicate n false).length = n:=List.length_replicate
 have hM:Mrk n es f (fun _=>False) ((List.replicate n false).set f true) [(f:Int)]:=by
  refine ⟨by simp,?_,?_,?_,?_⟩
  ·intro i hi h
   rw [el_set _ _ _ _ (by omega)] at h
   split at h
   ·rename_i e; subst e; exact .refl
   ·rw [el_replicate _ _ _ hi] at h; cases h
  ·rw [el_set _ _ _ _ (by omega),if_pos rfl]
  ·intro x hx
   rw [List.mem_singleton] at hx
   exact ⟨f,hx,hf,by rw [el_set _ _ _ _ (by omega),if_pos rfl]⟩
  ·intro i hi h hnq
   rw [el_set _ _ _ _ (by omega)] at h
   split at h
   ·rename_i e; subst e; exact absurd (List.mem_singleton.2 rfl) hnq
   ·rw [el_replicate _ _ _ hi] at h; cases h
 have hmu:2 * unm ((List.replicate n false).set f true) + [(f:Int)].length ≤ 1000:=by
  have h1:unm ((List.replicate n false).set f true) ≤ n:=by
   have:=List.count_le_length (a:=false) (l:=(List.replicate n false).set f true)
   simpa [unm] using this
  simp only [List.length_singleton]
  omega
 have l2:∃ x,mgraph_reach_l2 (rowsG n es) ((List.replicate n false).set f true) [(f:Int)] = some x ∧ x = reachL n es f:=by
  unfold mgraph_reach_l2
  refine iter_meas (step:=fun (w:(List Bool) × (List Int))=>mgraph_reach_l2_s (rowsG n es) w.1 w.2) (fun s=>Mrk n es f (fun _=>False) s.1 s.2 ∧ 2 * unm s.1 + s.2.length ≤ 1000) (fun s=>2 * unm s.1 + s.2.length) (fun x=>x = reachL n es f) ?_ _ ⟨hM,hmu⟩
  rintro ⟨o,q⟩ ⟨hm,hb⟩
  cases q with
  | nil =>
   refine .inr ⟨o,by simp only [mgraph_reach_l2_s]; rfl,?_⟩
   apply ext_el (by rw [reachL_len]; exact hm.len)
   intro i hi
   rw [hm.len] at hi
   rw [reachL_el hi,Bool.eq_iff_iff,rchB_iff]
   refine ⟨hm.sound i hi,fun h=>?_⟩
   have:i < n ∧ el o i = true:=Rch.closed (fun i=>i < n ∧ el o i = true) ⟨hf,hm.start⟩ (fun x y hx hxy=>⟨(edg_lt hes hxy).2,hm.done x hx.1 hx.2 (by simp) (fun h=>h) y hxy⟩) h
   exact this.2
  | cons x q =>
   refine .inl ?_
   obtain ⟨a,rfl,han,hoa⟩:=hm.queue x (List.mem_cons_self ..)
   have hm2:Mrk n es f (· = a) o q:=⟨hm.len,hm.sound,hm.start,fun y hy=>hm.queue y (List.mem_cons_of_mem _ hy),fun i hi h hnq hne j hj=>hm.done i hi h (fun hh=>by
    rcases List.mem_cons.1 hh with e | e
    ·exact hne (by omega)
    ·exact hnq e) (fun h=>h) j hj⟩
   simp only [List.length_cons] at hb
   obtain ⟨⟨o2,q2⟩,h1,h2,h3⟩:=reach_inner hes hm2 hoa han (by omega) hl
   refine ⟨(o2,q2),?_,⟨h2,by dsimp only at h3 ⊢; omega⟩,by dsimp only at h3 ⊢; simp only [List.length_cons]; omega⟩
   simp only [mgraph_reach_l2_s]
   rw [if_pos (decide_eq_true (by simp only [List.length_cons]; omega)),if_pos ⟨Nat.le_refl _,by simp⟩]
   simp only [List.getElem?_cons_zero,Option.bind_some,if_pos (slice_ok1 _ _),at_row han,slice_tail,h1]
 obtain ⟨x,h1,rfl⟩:=l2
 rw [h1]; rfl
theorem Reach_eq (n:Int) (es:List GArr2I) (f:Int):mgraph_Reach n es f = some (if rightG n es ∧ 0 ≤ f ∧ f < n then reachL n.toNat es f.toNat else []):=by
 unfold mgraph_Reach
 rw [right_eq,Option.bind_some]
 by_cases h:rightG n es
 ·rw [decide_eq_true h,if_neg (by simp)]
  by_cases h1:f < 0
  ·rw [if_pos (decide_eq_true h1),if_neg (by omega)]
  rw [if_neg (by simpa using h1)]
  by_cases h2:f ≥ n
  ·rw [if_pos (decide_eq_true h2),if_neg (by omega)]
  rw [if_neg (by simpa using h2),if_pos ⟨h,by omega,by omega⟩,next_eq h,Option.bind_some]
  have:=reach_eq h.2.2 h.2.1 (by have:=h.1.2; omega) (f:=f.toNat) (by omega)
  rw [Int.toNat_of_nonneg (by omega)] at this
  rw [this,Option.bind_some]
 ·rw [decide_eq_false h,if_pos (by simp),if_neg (fun q=>h q.1)]
end Go.Proofs.Ytmekbfccmnjdcaa
