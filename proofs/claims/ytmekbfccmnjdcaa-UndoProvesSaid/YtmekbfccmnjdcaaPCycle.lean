/- Layer 6 (graph): distances, shortest cycles. -/
import Derived.Test.YtmekbfccmnjdcaaPGraph
set_option linter.unusedVariables false
set_option linter.unusedSimpArgs false
namespace Go.Proofs.Ytmekbfccmnjdcaa
open Go.RowKit Vm
inductive Tos (E:Nat→Nat→Prop) (s:Nat):Nat→Nat→Prop
 | zero:Tos E s 0 s
 | succ {k a b:Nat}:s < a→E a b→Tos E s k b→Tos E s (k + 1) a
def Cl (E:Nat→Nat→Prop) (s k:Nat):Prop:=∃ b,E s b ∧ Tos E s k b
theorem Tos.zero_eq {E:Nat→Nat→Prop} {s a:Nat} (h:Tos E s 0 a):a = s:=by
 cases h; rfl
theorem Tos.gt {E:Nat→Nat→Prop} {s k a:Nat} (h:Tos E s (k + 1) a):s < a ∧ ∃ b,E a b ∧ Tos E s k b:=by
 cases h with
 | succ h1 h2 h3=>exact ⟨h1,_,h2,h3⟩
theorem Tos.ge {E:Nat→Nat→Prop} {s k a:Nat} (h:Tos E s k a):s ≤ a:=by
 cases h with
 | zero=>exact Nat.le_refl _
 | succ h1 _ _=>omega
theorem Tos.mono {E F:Nat→Nat→Prop} (h:∀ a b,E a b→F a b) {s k a:Nat} (t:Tos E s k a):Tos F s k a:=by
 induction t with
 | zero=>exact .zero
 | succ h1 h2 _ ih=>exact .succ h1 (h _ _ h2) ih
theorem Cl.mono {E F:Nat→Nat→Prop} (h:∀ a b,E a b→F a b) {s k:Nat} (t:Cl E s k):Cl F s k:=by
 obtain ⟨b,h1,h2⟩:=t
 exact ⟨b,h _ _ h1,h2.mono h⟩
def Dist (E:Nat→Nat→Prop) (s n:Nat) (far:List Int):Prop:=far.length = n ∧ (∀ a,a < n→(el far a = 0 ∧ ∀ k,¬ Tos E s k a) ∨ ∃ d:Nat,el far a = ((d + 1:Nat):Int) ∧ Tos E s d a ∧ ∀ k,k < d→¬ Tos E s k a) ∧ ∀ a,el far a ≤ (n:Int)
def turnG (es:List GArr2I):List GArr2I:=es.map fun e=>⟨e.e1,e.e0⟩
theorem turn_edg {es:List GArr2I} {a b:Nat}:edg (turnG es) b a ↔ edg es a b:=by
 unfold edg turnG
 constructor
 ·rintro ⟨e,he,h1,h2⟩
  obtain ⟨x,hx,rfl⟩:=List.mem_map.1 he
  exact ⟨x,hx,h2,h1⟩
 ·rintro ⟨e,he,h1,h2⟩
  exact ⟨_,List.mem_map.2 ⟨e,he,rfl⟩,h2,h1⟩
theorem turn_in {n:Nat} {es:List GArr2I} (h:∀ e ∈ es,inE n e):∀ e ∈ turnG es,inE n e:=by
 intro e he
 obtain ⟨x,hx,rfl⟩:=List.mem_map.1 he
 have:=h x hx
 exact ⟨this.2,this.1⟩
def zer (out:List Int):Nat:=out.count 0
theorem zer_set {out:List Int} {i:Nat} {x:Int} (h:i < out.length) (hf:el out i = 0) (hx:x ≠ 0):zer (out.set i x) + 1 = zer out:=by
 unfold zer
 rw [List.count_set h]
 rw [el_lt _ _ h] at hf
 have:0 < out.count 0:=List.count_pos_iff.2 (by rw [← hf]; exact List.getElem_mem h)
 simp [hf,hx]
 omega
structure Far (n:Nat) (es:List GArr2I) (s:Nat) (busy:Nat→Prop) (q:List Int) (out:List Int):Prop where
 len:out.length = n
 nn:∀ i,0 ≤ el out i ∧ el out i + zer out ≤ n
 start:el out s = 1
 sound:∀ i,i < n→∀ d:Nat,el out i = ((d + 1:Nat):Int)→Tos (edg es) s d i
 queue:∀ x ∈ q,∃ i:Nat,x = i ∧ i < n ∧ 0 < el out i
 asc:q.Pairwise fun x y=>el out x.toNat ≤ el out y.toNat
 done:∀ c,c < n→0 < el out c→(c:Int) ∉ q→¬ busy c→∀ a,edg es a c→s < a→0 < el out a ∧ el out a ≤ el out c + 1
theorem steps_inner {n:Nat} {es:List GArr2I} (hes:∀ e ∈ es,inE n e) (hl:es.length ≤ 2000) (hn:n ≤ 300) {s b:Nat} {q out:List Int} (hM:Far n es s (· = b) q out) (hb:0 < el out b) (hbn:b < n)
  (hlo:∀ x ∈ q,el out b ≤ el out x.toNat) (hhi:∀ i,i < n→el out i ≤ el out b + 1) (hq:2 * zer out + q.length ≤ 100000) :
  ∃ x:List Int × List Int,mgraph_steps_l1 (rowsG n (turnG es)) (s:Int) (b:Int) (adj (turnG es) b) 0 q out = some x ∧ Far n es s (fun _=>False) x.1 x.2 ∧ (∀ i,i < n→∀ y ∈ x.1,el x.2 i ≤ el x.2 y.toNat + 1) ∧ 2 * zer x.2 + x.1.length ≤ 2 * zer out + q.length:=by
 have hlen:=adj_len (turnG es) b
 have htl:(turnG es).length = es.length:=by simp [turnG]
 unfold mgraph_steps_l1
 refine iter_for (step:=fun (w:Int × (List Int) × (List Int))=>mgraph_steps_l1_s (rowsG n (turnG es)) (s:Int) (b:Int) (adj (turnG es) b) w.1 w.2.1 w.2.2) (fun (k:Nat) (z:List Int × List Int)=>((k:Int),z.1,z.2)) (adj (turnG es) b).length
  (fun k z=>Far n es s (· = b) z.1 z.2 ∧ el z.2 b = el out b ∧ (∀ x ∈ z.1,el out b ≤ el z.2 x.toNat) ∧ (∀ i,i < n→el z.2 i ≤ el out b + 1) ∧ (∀ j,j < k→∀ a:Nat,el (adj (turnG es) b) j = a→s < a→0 < el z.2 a) ∧ 2 * zer z.2 + z.1.length ≤ 2 * zer out + q.length)
  (fun x=>Far n es s (fun _=>False) x.1 x.2 ∧ (∀ i,i < n→∀ y ∈ x.1,el x.2 i ≤ el x.2 y.toNat + 1) ∧ 2 * zer x.2 + x.1.length ≤ 2 * zer out + q.length)
  ?_ ?_ (q,out) ⟨hM,rfl,hlo,hhi,fun j hj=>absurd hj (Nat.not_lt_zero _),Nat.le_refl _⟩
 ·rintro k ⟨qq,o⟩ hk ⟨hm,hob,hlo,hhi,hdone,hmu⟩
  refine .inl ?_
  dsimp only at hm hob hlo hhi hdone hmu
  obtain ⟨a,ha,han,hae⟩:=adj_nat (turn_in hes) (el_mem (adj (turnG es) b) k hk)
  have hae' : edg es a b:=turn_edg.1 hae
  have hal:a < o.length:=by have:=hm.len; omega
  have hbl:b < o.length:=by have:=hm.len; omega
  simp only [mgraph_steps_l1_s,lt_t hk,if_true,at_el _ _ hk,Option.bind_some,ha,Int.toNat_natCast,if_pos (show (0:Int) ≤ (a:Int) ∧ a < o.length from ⟨by omega,hal⟩),if_pos (show (0:Int) ≤ (b:Int) ∧ b < o.length from ⟨by omega,hbl⟩),get_el o a hal,get_el o b hbl,wrap_succ (show k < 9223372036854775807 by omega)]
  have keep:(0 < el o a ∨ ¬ s < a)→∀ j,j < k + 1→∀ a' : Nat,el (adj (turnG es) b) j = a'→s < a'→0 < el o a':=by
   intro h j hj a' ha' hs
   by_cases e:j = k
   ·subst e
    have:a' = a:=by rw [ha] at ha'; omega
    subst this
    rcases h with h | h
    ·exact h
    ·exact absurd hs h
   ·exact hdone j (by omega) a' ha' hs
  by_cases c1:s < a
  ·rw [if_pos (decide_eq_true (show (a:Int) > (s:Int) by omega))]
   by_cases c2:el o a = 0
   ·rw [if_pos (by rw [c2]; rfl)]
    have hbv:=hm.nn b
    have hzs:=zer_set (x:=el o b + 1) hal c2 (by omega)
    rw [if_pos (by omega),wrap_id (by omega) (by omega)]
    have hne:b ≠ a:=fun e=>by subst e; omega
    have hsa:s ≠ a:=by omega
    refine ⟨(qq ++ [(a:Int)],o.set a (el o b + 1)),rfl,⟨by simp [hm.len],?_,?_,?_,?_,?_,?_⟩,?_,?_,?_,?_,?_⟩
    ·intro i
     show 0 ≤ el (o.set a (el o b + 1)) i ∧ el (o.set a (el o b + 1)) i + zer (o.set a (el o b + 1)) ≤ n
     rw [el_set _ _ _ _ hal]
     have:=hm.nn i
     split
     ·omega
     ·omega
    ·show el (o.set a (el o b + 1)) s = 1
     rw [el_set _ _ _ _ hal,if_neg hsa]; exact hm.start
    ·intro i hi d hd
     dsimp only at hd
     rw [el_set _ _ _ _ hal] at hd
     split at hd
     ·rename_i e
      subst e
      cases d with
      | zero=>omega
      | succ d=>exact .succ c1 hae' (hm.sound b hbn d (by omega))
     ·exact hm.sound i hi d hd
    ·intro x hx
     rcases List.mem_append.1 hx with h | h
     ·obtain ⟨i,h1,h2,h3⟩:=hm.queue x h
      refine ⟨i,h1,h2,?_⟩
      show 0 < el (o.set a (el o b + 1)) i
      rw [el_set _ _ _ _ hal]
      split
      ·omega
      ·exact h3
     ·rw [List.mem_singleton] at h
      exact ⟨a,h,han,by show 0 < el (o.set a (el o b + 1)) a; rw [el_set _ _ _ _ hal,if_pos rfl]; omega⟩
    ·have hq0:∀ x ∈ qq,el (o.set a (el o b + 1)) x.toNat = el o x.toNat:=by
      intro x hx
      obtain ⟨i,rfl,_,h3⟩:=hm.queue x hx
      rw [el_set _ _ _ _ hal,if_neg (fun e=>by rw [Int.toNat_natCast] at e; subst e; omega)]
     refine List.pairwise_append.2 ⟨?_,List.pairwise_singleton _ _,?_⟩
     ·refine hm.asc.imp_of_mem ?_
      intro x y hx hy h
      show el (o.set a (el o b + 1)) x.toNat ≤ el (o.set a (el o b + 1)) y.toNat
      rw [hq0 x hx,hq0 y hy]; exact h
     ·intro x hx y hy
      rw [List.mem_singleton] at hy
      subst hy
      show el (o.set a (el o b + 1)) x.toNat ≤ el (o.set a (el o b + 1)) (a:Int).toNat
      obtain ⟨i,rfl,h2,h3⟩:=hm.queue x hx
      have e1:=hq0 _ hx
      have e2:el (o.set a (el o b + 1)) (a:Int).toNat = el o b + 1:=by rw [Int.toNat_natCast,el_set _ _ _ _ hal,if_pos rfl]
      rw [e1,e2,hob]
      rw [Int.toNat_natCast]
      exact hhi i h2
    ·intro c hc h hnq hbz a' ha' hs
     show 0 < el (o.set a (el o b + 1)) a' ∧ el (o.set a (el o b + 1)) a' ≤ el (o.set a (el o b + 1)) c + 1
     dsimp only at h hnq
     have hca:c ≠ a:=fun e=>by subst e; exact hnq (List.mem_append.2 (.inr (List.mem_singleton.2 rfl)))
     rw [el_set _ _ _ _ hal,if_neg hca] at h
     have:=hm.done c hc h (fun q=>hnq (List.mem_append.2 (.inl q))) hbz a' ha' hs
     have haa:a' ≠ a:=fun e=>by subst e; omega
     rw [el_set _ _ _ _ hal,if_neg haa,el_set _ _ _ _ hal,if_neg hca]
     exact this
    ·show el (o.set a (el o b + 1)) b = el out b
     rw [el_set _ _ _ _ hal,if_neg hne]; exact hob
    ·intro x hx
     show el out b ≤ el (o.set a (el o b + 1)) x.toNat
     rw [el_set _ _ _ _ hal]
     split
     ·omega
     ·rcases List.mem_append.1 hx with h | h
      ·exact hlo x h
      ·rw [List.mem_singleton] at h; subst h; rename_i h; simp at h
    ·intro i hi
     show el (o.set a (el o b + 1)) i ≤ el out b + 1
     rw [el_set _ _ _ _ hal]
     split
     ·omega
     ·exact hhi i hi
    ·intro j hj a' ha' hs
     show 0 < el (o.set a (el o b + 1)) a'
     rw [el_set _ _ _ _ hal]
     split
     ·omega
     ·rename_i hne2
      by_cases e:j = k
      ·subst e; rw [ha] at ha'; omega
      ·exact hdone j (by omega) a' ha' hs
    ·show 2 * zer (o.set a (el o b + 1)) + (qq ++ [(a:Int)]).length ≤ 2 * zer out + q.length
     rw [List.length_append,List.length_singleton]
     omega
   ·rw [if_neg (by simpa using c2)]
    have:=hm.nn a
    exact ⟨(qq,o),rfl,hm,hob,hlo,hhi,keep (.inl (by omega)),hmu⟩
  ·rw [if_neg (by simp; omega)]
   exact ⟨(qq,o),rfl,hm,hob,hlo,hhi,keep (.inr c1),hmu⟩
 ·rintro ⟨qq,o⟩ ⟨hm,hob,hlo,hhi,hdone,hmu⟩
  dsimp only at hm hob hlo hhi hdone hmu
  refine ⟨(qq,o),?_,⟨hm.len,hm.nn,hm.start,hm.sound,hm.queue,hm.asc,?_⟩,?_,hmu⟩
  ·simp only [mgraph_steps_l1_s,lt_f,if_false]
  ·intro c hc h hnq _ a ha hs
   by_cases e:c = b
   ·subst e
    obtain ⟨k,hk,hk2⟩:=mem_el (adj_edg.2 (turn_edg.2 ha))
    refine ⟨hdone k hk a hk2 hs,?_⟩
    show el o a ≤ el o c + 1
    rw [hob]
    exact hhi a (edg_lt hes ha).1
   ·exact hm.done c hc h hnq e a ha hs
  ·intro i hi y hy
   have h1:=hhi i hi
   have h2:=hlo y hy
   show el o i ≤ el o y.toNat + 1
   omega
theorem steps_eq {n:Nat} {es:List GArr2I} (hes:∀ e ∈ es,inE n e) (hl:es.length ≤ 2000) (hn:n ≤ 300) {s:Nat} (hs:s < n) {out0:List Int} (h0:out0.length = n) :
  ∃ far,mgraph_steps (rowsG n (turnG es)) (s:Int) out0 = some far ∧ Dist (edg es) s n far:=by
 unfold mgraph_steps
 rw [h0]
 simp only [Int.toNat_natCast,List.length_replicate]
 rw [if_pos ⟨by omega,hs⟩,List.getElem?_replicate,if_pos hs,Option.bind_some]
 have hsl:s < (List.replicate n (0:Int)).length:=by simpa using hs
 have hz:zer (List.replicate n (0:Int)) = n:=by simp [zer]
 have hzs:=zer_set (x:=1) hsl (el_replicate n s 0 hs) (by decide)
 have hM:Far n es s (fun _=>False) [(s:Int)] ((List.replicate n (0:Int)).set s 1):=by
  refine ⟨by simp,?_,?_,?_,?_,List.pairwise_singleton _ _,?_⟩
  ·intro i
   rw [el_set _ _ _ _ hsl]
   split
   ·omega
   ·have:el (List.replicate n (0:Int)) i = 0:=by
     by_cases hi:i < n
     ·exact el_replicate n i 0 hi
     ·simp [el,List.getD_eq_getElem?_getD,hi]
    rw [this]; omega
  ·rw [el_set _ _ _ _ hsl,if_pos rfl]
  ·intro i hi d hd
   rw [el_set _ _ _ _ hsl] at hd
   split at hd
   ·rename_i e
    subst e
    obtain rfl:d = 0:=by omega
    exact .zero
   ·rw [el_replicate _ _ _ hi] at hd; omega
  ·intro x hx
   rw [List.mem_singleton] at hx
   exact ⟨s,hx,hs,by rw [el_set _ _ _ _ hsl,if_pos rfl]; decide⟩
  ·intro c hc h hnq
   rw [el_set _ _ _ _ hsl] at h
   split at h
   ·rename_i e; subst e; exact absurd (List.mem_singleton.2 rfl) hnq
   ·rw [el_replicate _ _ _ hc] at h; omega
 have hhi:∀ i,i < n→∀ y ∈ [(s:Int)],el ((List.replicate n (0:Int)).set s 1) i ≤ el ((List.replicate n (0:Int)).set s 1) y.toNat + 1:=by
  intro i hi y hy
  rw [List.mem_singleton] at hy
  subst hy
  rw [Int.toNat_natCast,el_set _ _ _ _ hsl,el_set _ _ _ _ hsl,if_pos rfl]
  split
  ·omega
  ·rw [el_replicate _ _ _ hi]; omega
 have l2:∃ x,mgraph_steps_l2 (rowsG n (turnG es)) (s:Int) [(s:Int)] ((List.replicate n (0:Int)).set s 1) = some x ∧ Dist (edg es) s n x:=by
  unfold mgraph_steps_l2
  refine iter_meas (step:=fun (w:(List Int) × (List Int))=>mgraph_steps_l2_s (rowsG n (turnG es)) (s:Int) w.1 w.2) (fun z=>Far n es s (fun _=>False) z.1 z.2 ∧ (∀ i,i < n→∀ y ∈ z.1,el z.2 i ≤ el z.2 y.toNat + 1) ∧ 2 * zer z.2 + z.1.length ≤ 1000) (fun z=>2 * zer z.2 + z.1.length) (fun x=>Dist (edg es) s n x) ?_ _ ⟨hM,hhi,by simp only [List.length_singleton]; omega⟩
  rintro ⟨q,o⟩ ⟨hm,hh,hb⟩
  dsimp only at hm hh hb
  cases q with
  | nil =>
   refine .inr ⟨o,by simp only [mgraph_steps_l2_s]; rfl,hm.len,fun a ha=>?_,fun a=>by have:=hm.nn a; omega⟩
   have near:∀ k a,Tos (edg es) s k a→0 < el o a ∧ el o a ≤ k + 1:=by
    intro k a t
    induction t with
    | zero=>rw [hm.start]; omega
    | succ h1 h2 h3 ih =>
     have:=hm.done _ (edg_lt hes h2).2 ih.1 (by simp) (fun h=>h) _ h2 h1
     omega
   have hv:=hm.nn a
   by_cases c:el o a = 0
   ·exact .inl ⟨c,fun k t=>by have:=near k a t; omega⟩
   ·refine .inr ⟨(el o a).toNat - 1,by omega,hm.sound a ha _ (by omega),fun k hk t=>?_⟩
    have:=near k a t
    omega
  | cons x q =>
   refine .inl ?_
   obtain ⟨b,rfl,hbn,hob⟩:=hm.queue x (List.mem_cons_self ..)
   obtain ⟨p1,p2⟩:=List.pairwise_cons.1 hm.asc
   have hm2:Far n es s (· = b) q o:=⟨hm.len,hm.nn,hm.start,hm.sound,fun y hy=>hm.queue y (List.mem_cons_of_mem _ hy),p2,fun c hc h hnq hne a ha hsa=>hm.done c hc h (fun hh=>by
    rcases List.mem_cons.1 hh with e | e
    ·exact hne (by omega)
    ·exact hnq e) (fun h=>h) a ha hsa⟩
   simp only [List.length_cons] at hb
   obtain ⟨⟨q2,o2⟩,h1,h2,h3,h4⟩:=steps_inner hes hl hn hm2 hob hbn (fun y hy=>by have:=p1 y hy; rwa [Int.toNat_natCast] at this) (fun i hi=>by have:=hh i hi _ (List.mem_cons_self ..); rwa [Int.toNat_natCast] at this) (by omega)
   refine ⟨(q2,o2),?_,⟨h2,h3,by dsimp only at h4 ⊢; omega⟩,by dsimp only at h4 ⊢; simp only [List.length_cons]; omega⟩
   simp only [mgraph_steps_l2_s]
   rw [if_pos (decide_eq_true (by simp only [List.length_cons]; omega)),if_pos ⟨Nat.le_refl _,by simp⟩]
   simp only [List.getElem?_cons_zero,Option.bind_some,if_pos (slice_ok1 _ _),at_row hbn,slice_tail,h1]
 obtain ⟨x,h1,h2⟩:=l2
 refine ⟨x,?_,h2⟩
 rw [h1]; rfl
end Go.Proofs.Ytmekbfccmnjdcaa
