/- The laws of layer 06 (graph): GraphGrows. -/
import Derived.Test.YtlpgfmnicomjjaaPLaw06d
set_option linter.unusedVariables false
set_option linter.unusedSimpArgs false
namespace Go.Proofs.Ytlpgfmnicomjjaa
open Go.RowKit Vm
def ofH (n:Nat) (es:List GArr2I) (i:Nat) (of:List Int):Prop:=of.length = n ∧ ∀ x,x < n→∀ j,j < i→mutB es (el (leadsN n es) j) x = true→el of x = (j:Int)
theorem ggrows_l1 {n:Nat} {es:List GArr2I} (hn:n ≤ 300) {i:Nat} (hi:i < (leadsN n es).length) (r1:Bool) (r3 r4:List Bool) (r7:List (List Int)) {of:List Int} (hof:ofH n es i of) :
  ∃ of',mallongelaw06_GraphGrows_l1 (n:Int) (i:Int) r1 r3 r4 r7 (gl (groupsN n es)) 0 of = some (.inl of') ∧ ofH n es (i + 1) of':=by
 have hgi:i < (groupsN n es).length:=by rw [groupsN_len]; exact hi
 have hg:=groupsN_el hi
 have hglen:=grpN_len n es (el (leadsN n es) i)
 have hin:=leadsN_len n es
 have key:∃ z,mallongelaw06_GraphGrows_l1 (n:Int) (i:Int) r1 r3 r4 r7 (gl (groupsN n es)) 0 of = some z ∧ ∃ of',z = .inl of' ∧ ofH n es (i + 1) of':=by
  unfold mallongelaw06_GraphGrows_l1
  refine iter_for (step:=fun (w:Int × (List Int))=>mallongelaw06_GraphGrows_l1_s (n:Int) (i:Int) r1 r3 r4 r7 (gl (groupsN n es)) w.1 w.2) (fun (k:Nat) (z:List Int)=>((k:Int),z)) (grpN n es (el (leadsN n es) i)).length
   (fun k z=>z.length = n ∧ (∀ j,j < k→el z (el (grpN n es (el (leadsN n es) i)) j) = (i:Int)) ∧ ∀ x,(∀ j,j < k→el (grpN n es (el (leadsN n es) i)) j ≠ x)→el z x = el of x) _ ?_ ?_ of ⟨hof.1,fun j hj=>absurd hj (Nat.not_lt_zero _),fun x _=>rfl⟩
  ·rintro k o hk ⟨h1,h4,h5⟩
   refine .inl ?_
   obtain ⟨hxn,hxm⟩:=mem_grp.1 (el_mem _ k hk)
   have hasc:=grp_asc n es (el (leadsN n es) i)
   have hat:∀ j,j < (grpN n es (el (leadsN n es) i)).length→at? (ci (grpN n es (el (leadsN n es) i))) (j:Int) = some ((el (grpN n es (el (leadsN n es) i)) j:Nat):Int):=fun j hj=>by rw [at_el _ _ (by rw [ci_len]; exact hj),ci_el _ j hj]
   refine ⟨o.set (el (grpN n es (el (leadsN n es) i)) k) (i:Int),?_,by simp [h1],?_,?_⟩
   ·simp only [mallongelaw06_GraphGrows_l1_s,at_gl _ i hgi,hg,Option.bind_some,ci_len,lt_t hk,if_true,hat k hk,Int.toNat_natCast,wrap_succ (show k < 9223372036854775807 by omega)]
    rw [if_neg (by simp),if_neg (by simp; omega),if_pos ⟨by omega,by omega⟩,get_el o _ (by omega),Option.bind_some]
   ·intro j hj
    rw [el_set _ _ _ _ (by omega)]
    by_cases e:j = k
    ·subst e; rw [if_pos rfl]
    ·rw [if_neg (by have:=pw_el hasc (show j < k by omega) hk; omega)]; exact h4 j (by omega)
   ·intro x hx
    rw [el_set _ _ _ _ (by omega),if_neg (fun q=>hx k (by omega) q.symm)]
    exact h5 x fun j hj=>hx j (by omega)
  ·rintro o ⟨h1,h4,h5⟩
   refine ⟨.inl o,?_,o,rfl,h1,fun x hx j hj hm=>?_⟩
   ·simp only [mallongelaw06_GraphGrows_l1_s,at_gl _ i hgi,hg,Option.bind_some,ci_len,lt_f,if_false]
   ·by_cases hm2:mutB es (el (leadsN n es) i) x = true
    ·obtain ⟨q,hq,e⟩:=mem_el (mem_grp.2 ⟨hx,hm2⟩)
     have:j = i:=leads_inj (show j < (leadsN n es).length by omega) hi (mutB_trans hm (mutB_symm hm2))
     rw [this,← e]; exact h4 q hq
    ·rw [h5 x fun q hq e=>hm2 (by rw [← e]; exact (mem_grp.1 (el_mem _ q hq)).2)]
     have:j ≠ i:=fun e=>by subst e; exact hm2 hm
     exact hof.2 x hx j (by omega) hm
 obtain ⟨z,h1,of',rfl,h2⟩:=key
 exact ⟨of',h1,h2⟩
theorem ggrows_l2 {n:Nat} {es:List GArr2I} (hn:n ≤ 300) (r1:Bool) (r3 r4:List Bool) (r7:List (List Int)):∃ of,mallongelaw06_GraphGrows_l2 (n:Int) r1 r3 r4 r7 (gl (groupsN n es)) 0 (List.replicate n 0) = some (.inl of) ∧ ofH n es (leadsN n es).length of:=by
 have hin:=leadsN_len n es
 have hgl:((gl (groupsN n es)).length:Int) = ((leadsN n es).length:Int):=by rw [gl_len,groupsN_len]
 have key:∃ z,mallongelaw06_GraphGrows_l2 (n:Int) r1 r3 r4 r7 (gl (groupsN n es)) 0 (List.replicate n 0) = some z ∧ ∃ of,z = .inl of ∧ ofH n es (leadsN n es).length of:=by
  unfold mallongelaw06_GraphGrows_l2
  refine iter_for (step:=fun (w:Int × (List Int))=>mallongelaw06_GraphGrows_l2_s (n:Int) r1 r3 r4 r7 (gl (groupsN n es)) w.1 w.2) (fun (k:Nat) (z:List Int)=>((k:Int),z)) (leadsN n es).length (fun k z=>ofH n es k z) _ ?_ ?_ _ ⟨by simp,fun x hx j hj=>absurd hj (Nat.not_lt_zero _)⟩
  ·rintro i o hi h
   obtain ⟨o',q1,q2⟩:=ggrows_l1 hn hi r1 r3 r4 r7 h
   refine .inl ⟨o',?_,q2⟩
   simp only [mallongelaw06_GraphGrows_l2_s,hgl,lt_t hi,if_true,q1,Option.bind_some,Sum.elim_inl,wrap_succ (show i < 9223372036854775807 by omega)]
  ·rintro o h
   exact ⟨.inl o,by simp only [mallongelaw06_GraphGrows_l2_s,hgl,lt_f,if_false],o,rfl,h⟩
 obtain ⟨z,h1,of,rfl,h2⟩:=key
 exact ⟨of,h1,h2⟩
theorem ofH.same {n:Nat} {es:List GArr2I} {of:List Int} (h:ofH n es (leadsN n es).length of) {x y:Nat} (hx:x < n) (hy:y < n) (hm:mutB es x y = true):el of x = el of y:=by
 obtain ⟨j,hj,q⟩:=lead_at (es:=es) hx
 rw [h.2 x hx j hj q,h.2 y hy j hj (mutB_trans q hm)]
theorem ggrows_l4 {n:Nat} {es fs:List GArr2I} (hn:n ≤ 300) (hsub:∀ a b,edg es a b→edg fs a b) {of:List Int} (hof:ofH n fs (leadsN n fs).length of) (r1:Bool) (r3 r4:List Bool):mallongelaw06_GraphGrows_l4 (n:Int) r1 r3 r4 (gl (groupsN n es)) of 0 = some (.inl ()):=by
 have hin:=leadsN_len n es
 have hgl:((gl (groupsN n es)).length:Int) = ((leadsN n es).length:Int):=by rw [gl_len,groupsN_len]
 have hol:=hof.1
 unfold mallongelaw06_GraphGrows_l4
 refine iter_all (step:=fun w=>mallongelaw06_GraphGrows_l4_s (n:Int) r1 r3 r4 (gl (groupsN n es)) of w) (fun k:Nat=>(k:Int)) (leadsN n es).length (.inl ()) ?_ ?_
 ·intro i hi
  have hgi:i < (groupsN n es).length:=by rw [groupsN_len]; exact hi
  have hg:=groupsN_el hi
  have hglen:=grpN_len n es (el (leadsN n es) i)
  obtain ⟨g0,g1⟩:=grp_head (lead_el hi).1 (lead_el hi).2
  have hat:∀ j,j < (grpN n es (el (leadsN n es) i)).length→at? (ci (grpN n es (el (leadsN n es) i))) (j:Int) = some ((el (grpN n es (el (leadsN n es) i)) j:Nat):Int):=fun j hj=>by rw [at_el _ _ (by rw [ci_len]; exact hj),ci_el _ j hj]
  have hat0:at? (ci (grpN n es (el (leadsN n es) i))) 0 = some ((el (leadsN n es) i:Nat):Int):=by
   have:=hat 0 g0
   rw [g1] at this
   exact this
  have l3:mallongelaw06_GraphGrows_l3 (n:Int) (i:Int) r1 r3 r4 (gl (groupsN n es)) of 0 = some (.inl ()):=by
   unfold mallongelaw06_GraphGrows_l3
   refine iter_all (step:=fun w=>mallongelaw06_GraphGrows_l3_s (n:Int) (i:Int) r1 r3 r4 (gl (groupsN n es)) of w) (fun k:Nat=>(k:Int)) (grpN n es (el (leadsN n es) i)).length (.inl ()) ?_ ?_
   ·intro k hk
    obtain ⟨hxn,hxm⟩:=mem_grp.1 (el_mem _ k hk)
    have hln:=(lead_el hi).1
    have hm:=mutB_iff.1 hxm
    have hs:=hof.same hln hxn (mutB_iff.2 ⟨hm.1.mono hsub,hm.2.mono hsub⟩)
    simp only [mallongelaw06_GraphGrows_l3_s,at_gl _ i hgi,hg,Option.bind_some,ci_len,lt_t hk,if_true,hat k hk,hat0,Int.toNat_natCast,wrap_succ (show k < 9223372036854775807 by omega)]
    rw [if_neg (by simp),if_neg (by simp; omega),if_pos ⟨by omega,by omega⟩,get_el of _ (by omega),Option.bind_some,if_pos ⟨by omega,by omega⟩,get_el of _ (by omega),Option.bind_some,hs,if_neg (by simp)]
   ·simp only [mallongelaw06_GraphGrows_l3_s,at_gl _ i hgi,hg,Option.bind_some,ci_len,lt_f,if_false]
  simp only [mallongelaw06_GraphGrows_l4_s,hgl,lt_t hi,if_true,l3,Option.bind_some,Sum.elim_inl,wrap_succ (show i < 9223372036854775807 by omega)]
 ·simp only [mallongelaw06_GraphGrows_l4_s,hgl,lt_f,if_false]
theorem leads_mono {n:Nat} {es fs:List GArr2I} (hsub:∀ a b,edg es a b→edg fs a b):(leadsN n fs).length ≤ (leadsN n es).length:=by
 unfold leadsN
 rw [← List.countP_eq_length_filter,← List.countP_eq_length_filter]
 refine List.countP_mono_left fun a _ h=>?_
 rw [leadB_iff] at h ⊢
 intro c hc hm
 have:=mutB_iff.1 hm
 exact h c hc (mutB_iff.2 ⟨this.1.mono hsub,this.2.mono hsub⟩)
theorem leads_pos {n:Nat} {es:List GArr2I} (hn:0 < n):0 < (leadsN n es).length:=by
 obtain ⟨i,hi,_⟩:=lead_at (es:=es) hn
 omega
theorem law06_grows (hsane:mallongelaw06_sane = some true) (n:Int) (es:List GArr2I) (f:Int) (x:GArr2I) (hfit:es.length * 16 ≤ 140737488355328 - 4096):mallongelaw06_GraphGrows n es f x = some true:=by
 unfold mallongelaw06_GraphGrows
 rw [hsane,Option.bind_some,if_pos (by omega),if_pos (by rw [List.nil_append]; omega),List.nil_append,gmid_eq,Option.bind_some]
 by_cases hm:midG n (es ++ [x])
 ·rw [decide_eq_true hm,if_neg (by simp)]
  by_cases h1:f < 0
  ·rw [if_pos (decide_eq_true h1)]
  rw [if_neg (by simpa using h1)]
  by_cases h2:f ≥ n
  ·rw [if_pos (decide_eq_true h2)]
  rw [if_neg (by simpa using h2)]
  obtain ⟨m,rfl⟩ : ∃ m:Nat,n = m:=⟨n.toNat,by have:=hm.2.2.1.1; omega⟩
  obtain ⟨a,rfl⟩ : ∃ a:Nat,f = a:=⟨f.toNat,by omega⟩
  have ham:a < m:=by omega
  have hm40:m ≤ 40:=by have:=hm.1; omega
  have hl:=hm.2.1
  rw [List.length_append,List.length_singleton] at hl
  have hr:rightG (m:Int) es:=⟨hm.2.2.1,by omega,fun e he=>hm.2.2.2.2 e (List.mem_append.2 (.inl he))⟩
  have hsub:∀ u v,edg es u v→edg (es ++ [x]) u v:=fun u v ⟨e,he,q⟩=>⟨e,List.mem_append.2 (.inl he),q⟩
  obtain ⟨c,c1,c2⟩:=Cycle_eq hr
  obtain ⟨d,d1,d2⟩:=Cycle_eq hm.2.2
  obtain ⟨of,o1,o2⟩:=ggrows_l2 (n:=m) (es:=es ++ [x]) (by omega) true (reachL m es a) (reachL m (es ++ [x]) a) (gl (groupsN m es))
  have l5:mallongelaw06_GraphGrows_l5 (m:Int) true (reachL m es a) (reachL m (es ++ [x]) a) 0 = some (.inl ()):=by
   unfold mallongelaw06_GraphGrows_l5
   refine iter_all (step:=fun w=>mallongelaw06_GraphGrows_l5_s (m:Int) true (reachL m es a) (reachL m (es ++ [x]) a) w) (fun k:Nat=>(k:Int)) m (.inl ()) ?_ ?_
   ·intro k hk
    simp only [mallongelaw06_GraphGrows_l5_s,lt_t hk,if_true,at_el _ _ (show k < (reachL m es a).length by rw [reachL_len]; exact hk),at_el _ _ (show k < (reachL m (es ++ [x]) a).length by rw [reachL_len]; exact hk),Option.bind_some,reachL_el hk,wrap_succ (show k < 9223372036854775807 by omega)]
    cases r:rchB es a k with
    | false=>rfl
    | true =>
     rw [rchB_iff.2 ((rchB_iff.1 r).mono hsub)]; rfl
   ·simp only [mallongelaw06_GraphGrows_l5_s,lt_f,if_false]
  have j6:mallongelaw06_GraphGrows_j6 (m:Int) true (reachL m es a) (reachL m (es ++ [x]) a) (gl (groupsN m es)) (gl (groupsN m (es ++ [x]))) = some true:=by
   unfold mallongelaw06_GraphGrows_j6
   rw [if_pos (by omega),Int.toNat_natCast,o1,Option.bind_some,Sum.elim_inl,ggrows_l4 (by omega) hsub o2,Option.bind_some,Sum.elim_inl,l5]
   rfl
  have hg1:((gl (groupsN m es)).length:Int) = ((leadsN m es).length:Int):=by rw [gl_len,groupsN_len]
  have hg2:((gl (groupsN m (es ++ [x]))).length:Int) = ((leadsN m (es ++ [x])).length:Int):=by rw [gl_len,groupsN_len]
  have hle:=leads_mono (n:=m) hsub
  have hpos:=leads_pos (n:=m) (es:=es ++ [x]) (by omega)
  rw [Reach_eq,if_pos ⟨hr,by omega,by omega⟩,Option.bind_some,Reach_eq,if_pos ⟨hm.2.2,by omega,by omega⟩,Option.bind_some,c1,Option.bind_some,d1,Option.bind_some,Groups_eq hr,Option.bind_some,Groups_eq hm.2.2,Option.bind_some]
  simp only [Int.toNat_natCast,reachL_len,ci_len,hg1,hg2]
  rw [if_neg (by simp),if_neg (by simp)]
  by_cases hc:c.length = 0
  ·rw [if_neg (by rw [hc]; decide),if_neg (by simp; omega),if_neg (by rw [beq_iff_eq]; omega),j6]; rfl
  ·have hcy:CycG (edg es) c:=by
    rcases c2.1 with ⟨q,_⟩ | ⟨q,_⟩
    ·rw [q] at hc; simp at hc
    ·exact q
   obtain ⟨p1,p2⟩:=d2.some (c2.2 0 (by omega)) (hcy.cl.mono hsub)
   have p3:=p1.pos
   rw [if_pos (decide_eq_true (by omega)),if_neg (by rw [beq_iff_eq]; omega),if_neg (by simp; omega),if_neg (by simp; omega),if_neg (by rw [beq_iff_eq]; omega),j6]; rfl
 ·rw [decide_eq_false hm,if_pos (by simp)]
end Go.Proofs.Ytlpgfmnicomjjaa
