/- The laws of layer 06 (graph): GraphGroups, GraphGrows. -/
import Derived.Test.YtlpgfmnicomjjaaPGroups
set_option linter.unusedVariables false
set_option linter.unusedSimpArgs false
namespace Go.Proofs.Ytlpgfmnicomjjaa
open Go.RowKit Vm
theorem groupsN_len (n:Nat) (es:List GArr2I):(groupsN n es).length = (leadsN n es).length:=by simp [groupsN]
theorem groupsN_el {n:Nat} {es:List GArr2I} {i:Nat} (h:i < (leadsN n es).length):el (groupsN n es) i = grpN n es (el (leadsN n es) i):=by
 rw [el_lt _ _ (by rw [groupsN_len]; exact h),el_lt _ _ h]
 simp [groupsN]
theorem leadsN_len (n:Nat) (es:List GArr2I):(leadsN n es).length ≤ n:=by
 have:=List.length_filter_le (fun a=>leadB es a) (List.range n)
 simpa [leadsN] using this
theorem grpN_len (n:Nat) (es:List GArr2I) (a:Nat):(grpN n es a).length ≤ n:=by
 have:=List.length_filter_le (fun b=>mutB es a b) (List.range n)
 simpa [grpN] using this
theorem lead_el {n:Nat} {es:List GArr2I} {i:Nat} (h:i < (leadsN n es).length):el (leadsN n es) i < n ∧ leadB es (el (leadsN n es) i) = true:=mem_leads.1 (el_mem _ i h)
theorem leads_inj {n:Nat} {es:List GArr2I} {i j:Nat} (hi:i < (leadsN n es).length) (hj:j < (leadsN n es).length) (h:mutB es (el (leadsN n es) i) (el (leadsN n es) j) = true):i = j:=by
 have e:=lead_eq (lead_el hi).2 (lead_el hj).2 h
 rcases Nat.lt_trichotomy i j with q | q | q
 ·have:=pw_el (leads_asc n es) q hj; omega
 ·exact q
 ·have:=pw_el (leads_asc n es) q hi; omega
theorem grp_head {n:Nat} {es:List GArr2I} {a:Nat} (ha:a < n) (h:leadB es a = true):0 < (grpN n es a).length ∧ el (grpN n es a) 0 = a:=by
 have hm:a ∈ grpN n es a:=mem_grp.2 ⟨ha,mutB_refl es a⟩
 obtain ⟨i,hi,e⟩:=mem_el hm
 have h0:0 < (grpN n es a).length:=by omega
 refine ⟨h0,?_⟩
 by_cases c:i = 0
 ·subst c; exact e
 ·have:=pw_el (grp_asc n es a) (show 0 < i by omega) hi
  have h1:=mem_grp.1 (el_mem (grpN n es a) 0 h0)
  exact absurd h1.2 (leadB_iff.1 h _ (by omega))
theorem lead_at {n:Nat} {es:List GArr2I} {x:Nat} (hx:x < n):∃ i,i < (leadsN n es).length ∧ mutB es (el (leadsN n es) i) x = true:=by
 obtain ⟨c,h1,h2,h3⟩:=lead_of es x
 obtain ⟨i,hi,e⟩:=mem_el (mem_leads.2 ⟨show c < n by omega,h3⟩)
 exact ⟨i,hi,by rw [e]; exact mutB_symm h2⟩
def ofG (n:Nat) (es:List GArr2I) (i:Nat) (of:List Int):Prop:=of.length = n ∧ ∀ x,x < n→(el of x = 0 ∧ ∀ j,j < i→¬ mutB es (el (leadsN n es) j) x = true) ∨ ∃ j,j < i ∧ el of x = ((j + 1:Nat):Int) ∧ mutB es (el (leadsN n es) j) x = true
theorem el_repl_any (n i:Nat):el (List.replicate n (0:Int)) i = 0:=by
 by_cases hi:i < n
 ·exact el_replicate n i 0 hi
 ·simp [el,List.getD_eq_getElem?_getD,hi]
theorem ggroups_l2 {n:Nat} {es:List GArr2I} (hn:n ≤ 300) {i:Nat} (hi:i < (leadsN n es).length) (a2 a3 x12 cnt:Int) (r1:Bool) {of:List Int} (hof:ofG n es i of) (hc:cnt + zer of = n) (hc0:0 ≤ cnt) :
  ∃ (cnt' : Int) (of' : List Int),mallongelaw06_GraphGroups_l2 (n:Int) es a2 a3 (i:Int) r1 (gl (groupsN n es)) x12 cnt 0 of = some (.inl (cnt',of')) ∧ ofG n es (i + 1) of' ∧ cnt' + zer of' = n ∧ 0 ≤ cnt':=by
 have hgi:i < (groupsN n es).length:=by rw [groupsN_len]; exact hi
 have hg:=groupsN_el hi
 have hglen:=grpN_len n es (el (leadsN n es) i)
 have hin:=leadsN_len n es
 have key:∃ z,mallongelaw06_GraphGroups_l2 (n:Int) es a2 a3 (i:Int) r1 (gl (groupsN n es)) x12 cnt 0 of = some z ∧ ∃ (cnt' : Int) (of' : List Int),z = .inl (cnt',of') ∧ ofG n es (i + 1) of' ∧ cnt' + zer of' = n ∧ 0 ≤ cnt':=by
  unfold mallongelaw06_GraphGroups_l2
  refine iter_for (step:=fun (w:Int × Int × (List Int))=>mallongelaw06_GraphGroups_l2_s (n:Int) es a2 a3 (i:Int) r1 (gl (groupsN n es)) x12 w.1 w.2.1 w.2.2) (fun (k:Nat) (z:Int × List Int)=>(z.1,(k:Int),z.2)) (grpN n es (el (leadsN n es) i)).length
   (fun k z=>z.2.length = n ∧ z.1 + zer z.2 = n ∧ 0 ≤ z.1 ∧ (∀ j,j < k→el z.2 (el (grpN n es (el (leadsN n es) i)) j) = ((i + 1:Nat):Int)) ∧ ∀ x,(∀ j,j < k→el (grpN n es (el (leadsN n es) i)) j ≠ x)→el z.2 x = el of x) _ ?_ ?_ (cnt,of) ⟨hof.1,hc,hc0,fun j hj=>absurd hj (Nat.not_lt_zero _),fun x _=>rfl⟩
  ·rintro k ⟨c,o⟩ hk ⟨h1,h2,h3,h4,h5⟩
   dsimp only at h1 h2 h3 h4 h5
   refine .inl ?_
   obtain ⟨hxn,hxm⟩:=mem_grp.1 (el_mem _ k hk)
   have hasc:=grp_asc n es (el (leadsN n es) i)
   have hz:el o (el (grpN n es (el (leadsN n es) i)) k) = 0:=by
    rw [h5 _ fun j hj e=>by have:=pw_el hasc hj hk; omega]
    rcases hof.2 _ hxn with ⟨q,_⟩ | ⟨j,q1,_,q3⟩
    ·exact q
    ·have:=leads_inj (show j < (leadsN n es).length by omega) hi (mutB_trans q3 (mutB_symm hxm))
     omega
   have hzs:=zer_set (x:=((i + 1:Nat):Int)) (show el (grpN n es (el (leadsN n es) i)) k < o.length by omega) hz (by omega)
   have hat:∀ j,j < (grpN n es (el (leadsN n es) i)).length→at? (ci (grpN n es (el (leadsN n es) i))) (j:Int) = some ((el (grpN n es (el (leadsN n es) i)) j:Nat):Int):=fun j hj=>by rw [at_el _ _ (by rw [ci_len]; exact hj),ci_el _ j hj]
   have hj1:mallongelaw06_GraphGroups_j1 (n:Int) es a2 a3 c (k:Int) o (i:Int) r1 (gl (groupsN n es)) x12 = some (o.set (el (grpN n es (el (leadsN n es) i)) k) ((i + 1:Nat):Int)):=by
    unfold mallongelaw06_GraphGroups_j1
    rw [at_gl _ i hgi,Option.bind_some,hg,hat k hk,Option.bind_some,if_pos ⟨by omega,by rw [Int.toNat_natCast]; omega⟩,Int.toNat_natCast,get_el o _ (by omega),Option.bind_some,wrap_succ (by omega)]
   refine ⟨(c + 1,o.set (el (grpN n es (el (leadsN n es) i)) k) ((i + 1:Nat):Int)),?_,by simp [h1],by dsimp only; omega,by dsimp only; omega,?_,?_⟩
   ·have hwc:IntKind.wrap .i64 (c + 1) = c + 1:=wrap_id (by omega) (by omega)
    simp only [mallongelaw06_GraphGroups_l2_s,at_gl _ i hgi,hg,Option.bind_some,ci_len,lt_t hk,if_true,hat k hk,hj1,hwc,wrap_succ (show k < 9223372036854775807 by omega)]
    rw [if_neg (by simp),if_neg (by simp; omega)]
    by_cases e:k = 0
    ·subst e; rw [if_neg (by simp)]
    ·have hw:IntKind.wrap .i64 ((k:Int) - 1) = ((k - 1:Nat):Int):=by rw [wrap_id (by omega) (by omega)]; omega
     have:=pw_el hasc (show k - 1 < k by omega) hk
     rw [if_pos (decide_eq_true (by omega)),hw,hat (k - 1) (by omega),Option.bind_some,if_neg (by simp; omega)]
   ·intro j hj
    show el (o.set (el (grpN n es (el (leadsN n es) i)) k) ((i + 1:Nat):Int)) (el (grpN n es (el (leadsN n es) i)) j) = _
    rw [el_set _ _ _ _ (by omega)]
    by_cases e:j = k
    ·subst e; rw [if_pos rfl]
    ·rw [if_neg (by have:=pw_el hasc (show j < k by omega) hk; omega)]; exact h4 j (by omega)
   ·intro x hx
    show el (o.set (el (grpN n es (el (leadsN n es) i)) k) ((i + 1:Nat):Int)) x = _
    rw [el_set _ _ _ _ (by omega),if_neg (fun q=>hx k (by omega) q.symm)]
    exact h5 x fun j hj=>hx j (by omega)
  ·rintro ⟨c,o⟩ ⟨h1,h2,h3,h4,h5⟩
   dsimp only at h1 h2 h3 h4 h5
   refine ⟨.inl (c,o),?_,c,o,rfl,⟨h1,fun x hx=>?_⟩,h2,h3⟩
   ·simp only [mallongelaw06_GraphGroups_l2_s,at_gl _ i hgi,hg,Option.bind_some,ci_len,lt_f,if_false]
   ·by_cases hm:mutB es (el (leadsN n es) i) x = true
    ·obtain ⟨j,hj,e⟩:=mem_el (mem_grp.2 ⟨hx,hm⟩)
     exact .inr ⟨i,by omega,by rw [← e]; exact h4 j hj,hm⟩
    ·rw [h5 x fun j hj e=>hm (by rw [← e]; exact (mem_grp.1 (el_mem _ j hj)).2)]
     rcases hof.2 x hx with ⟨q1,q2⟩ | ⟨j,q1,q2⟩
     ·refine .inl ⟨q1,fun j hj=>?_⟩
      by_cases e:j = i
      ·subst e; exact hm
      ·exact q2 j (by omega)
     ·exact .inr ⟨j,by omega,q2⟩
 obtain ⟨z,h1,cnt',of',rfl,h2⟩:=key
 exact ⟨cnt',of',h1,h2⟩
theorem ggroups_l3 {n:Nat} {es:List GArr2I} (hn:n ≤ 300) (a2 a3:Int) (r1:Bool):∃ of,mallongelaw06_GraphGroups_l3 (n:Int) es a2 a3 r1 (gl (groupsN n es)) (-1) 0 0 (List.replicate n 0) = some (.inl ((n:Int),of)) ∧ ofG n es (leadsN n es).length of ∧ ∀ x,x < n→el of x ≠ 0:=by
 have hin:=leadsN_len n es
 have key:∃ z,mallongelaw06_GraphGroups_l3 (n:Int) es a2 a3 r1 (gl (groupsN n es)) (-1) 0 0 (List.replicate n 0) = some z ∧ ∃ (c:Int) (of:List Int),z = .inl (c,of) ∧ ofG n es (leadsN n es).length of ∧ c + zer of = n:=by
  unfold mallongelaw06_GraphGroups_l3
  refine iter_for (step:=fun (w:Int × Int × Int × (List Int))=>mallongelaw06_GraphGroups_l3_s (n:Int) es a2 a3 r1 (gl (groupsN n es)) w.1 w.2.1 w.2.2.1 w.2.2.2) (fun (k:Nat) (z:Int × Int × List Int)=>(z.1,z.2.1,(k:Int),z.2.2)) (leadsN n es).length
   (fun k z=>(z.1 = -1 ∨ ∃ j,j < k ∧ z.1 = (el (leadsN n es) j:Nat)) ∧ ofG n es k z.2.2 ∧ z.2.1 + zer z.2.2 = n ∧ 0 ≤ z.2.1) _ ?_ ?_ (-1,0,List.replicate n 0) ⟨.inl rfl,⟨by simp,fun x hx=>.inl ⟨el_repl_any n x,fun j hj=>absurd hj (Nat.not_lt_zero _)⟩⟩,by simp [zer],Int.le_refl _⟩
  ·rintro i ⟨last,c,o⟩ hi ⟨h1,h2,h3,h4⟩
   dsimp only at h1 h2 h3 h4
   refine .inl ?_
   have hgi:i < (groupsN n es).length:=by rw [groupsN_len]; exact hi
   have hg:=groupsN_el hi
   obtain ⟨g0,g1⟩:=grp_head (lead_el hi).1 (lead_el hi).2
   have hat0:at? (ci (grpN n es (el (leadsN n es) i))) 0 = some ((el (leadsN n es) i:Nat):Int):=by
    have:=at_el (ci (grpN n es (el (leadsN n es) i))) 0 (by rw [ci_len]; exact g0)
    rw [ci_el _ 0 g0,g1] at this
    exact this
   obtain ⟨c',o',q1,q2,q3,q4⟩:=ggroups_l2 hn hi a2 a3 ((el (leadsN n es) i:Nat):Int) c r1 h2 h3 h4
   refine ⟨(((el (leadsN n es) i:Nat):Int),c',o'),?_,.inr ⟨i,by omega,rfl⟩,q2,q3,q4⟩
   have hgl:((gl (groupsN n es)).length:Int) = ((leadsN n es).length:Int):=by rw [gl_len,groupsN_len]
   simp only [mallongelaw06_GraphGroups_l3_s,hgl,lt_t hi,if_true,at_gl _ i hgi,hg,Option.bind_some,ci_len,hat0,q1]
   rw [if_neg (by rw [beq_iff_eq]; omega),if_neg,Sum.elim_inl,wrap_succ (by omega)]
   simp only [decide_eq_true_eq]
   rcases h1 with e | ⟨j,hj,e⟩
   ·rw [e]; omega
   ·have:=pw_el (leads_asc n es) hj hi
    rw [e]; omega
  ·rintro ⟨last,c,o⟩ ⟨h1,h2,h3,h4⟩
   have hgl:((gl (groupsN n es)).length:Int) = ((leadsN n es).length:Int):=by rw [gl_len,groupsN_len]
   refine ⟨.inl (c,o),by simp only [mallongelaw06_GraphGroups_l3_s,hgl,lt_f,if_false],c,o,rfl,h2,h3⟩
 obtain ⟨z,h1,c,of,rfl,h2,h3⟩:=key
 have hnz:∀ x,x < n→el of x ≠ 0:=by
  intro x hx e
  obtain ⟨i,hi,hm⟩:=lead_at (es:=es) hx
  rcases h2.2 x hx with ⟨_,q⟩ | ⟨j,_,q,_⟩
  ·exact q i hi hm
  ·omega
 have hz:zer of = 0:=by
  unfold zer
  rw [List.count_eq_zero]
  intro q
  obtain ⟨i,hi,e⟩:=mem_el q
  exact hnz i (by have:=h2.1; omega) e
 refine ⟨of,?_,h2,hnz⟩
 rw [h1]
 congr 3
 omega
theorem ofG.get {n:Nat} {es:List GArr2I} {of:List Int} (h:ofG n es (leadsN n es).length of) (hz:∀ x,x < n→el of x ≠ 0) {x:Nat} (hx:x < n):∃ j,j < (leadsN n es).length ∧ el of x = ((j + 1:Nat):Int) ∧ mutB es (el (leadsN n es) j) x = true:=by
 rcases h.2 x hx with ⟨q,_⟩ | q
 ·exact absurd q (hz x hx)
 ·exact q
theorem ofG.same {n:Nat} {es:List GArr2I} {of:List Int} (h:ofG n es (leadsN n es).length of) (hz:∀ x,x < n→el of x ≠ 0) {x y:Nat} (hx:x < n) (hy:y < n):el of x = el of y ↔ mutB es x y = true:=by
 obtain ⟨i,hi,e1,m1⟩:=h.get hz hx
 obtain ⟨j,hj,e2,m2⟩:=h.get hz hy
 constructor
 ·intro q
  have:i = j:=by omega
  subst this
  exact mutB_trans (mutB_symm m1) m2
 ·intro q
  have:=leads_inj hi hj (mutB_trans m1 (mutB_trans q (mutB_symm m2)))
  subst this
  rw [e1,e2]
def btwG (es:List GArr2I) (of:List Int) (k:Nat):List GArr2I:=((es.take k).filter fun e=>el of e.e0.toNat != el of e.e1.toNat).map fun e=>⟨el of e.e0.toNat - 1,el of e.e1.toNat - 1⟩
theorem btw_succ {es:List GArr2I} {of:List Int} {k:Nat} (hk:k < es.length):btwG es of (k + 1) = if (el of (el es k).e0.toNat != el of (el es k).e1.toNat) = true then btwG es of k ++ [⟨el of (el es k).e0.toNat - 1,el of (el es k).e1.toNat - 1⟩] else btwG es of k:=by
 unfold btwG
 rw [List.take_add_one,List.getElem?_eq_getElem hk,← el_lt es k hk]
 simp only [Option.toList_some,List.filter_append,List.map_append]
 by_cases h:(el of (el es k).e0.toNat != el of (el es k).e1.toNat) = true
 ·rw [if_pos h]; simp only [List.filter_cons,h,if_true,List.filter_nil,List.map_cons,List.map_nil]
 ·rw [if_neg h]; simp only [List.filter_cons,h,List.filter_nil]; simp
theorem btw_len (es:List GArr2I) (of:List Int) (k:Nat):(btwG es of k).length ≤ es.length:=by
 unfold btwG
 rw [List.length_map]
 refine Nat.le_trans (List.length_filter_le _ _) ?_
 rw [List.length_take]; omega
theorem ggroups_l5 {n:Nat} {es:List GArr2I} (hn:n ≤ 300) (hes:∀ e ∈ es,inE n e) (hl:es.length ≤ 200) {of:List Int} (h:ofG n es (leadsN n es).length of) (hz:∀ x,x < n→el of x ≠ 0) (a2 a3 c:Int) (r1:Bool) (r3:List (List Int)) (r41 r42:List Bool) :
  mallongelaw06_GraphGroups_l5 es a2 a3 r1 r3 r41 r42 (c,of) 0 [] = some (btwG es of es.length):=by
 have hin:=leadsN_len n es
 unfold mallongelaw06_GraphGroups_l5
 refine iter_all (step:=fun (w:Int × (List GArr2I))=>mallongelaw06_GraphGroups_l5_s es a2 a3 r1 r3 r41 r42 (c,of) w.1 w.2) (fun k:Nat=>((k:Int),btwG es of k)) es.length _ ?_ ?_
 ·intro k hk
  obtain ⟨h0,h1⟩:=hes _ (el_mem es k hk)
  obtain ⟨i,hi,e1,_⟩:=h.get hz (show (el es k).e0.toNat < n by omega)
  obtain ⟨j,hj,e2,_⟩:=h.get hz (show (el es k).e1.toNat < n by omega)
  have hb:=btw_len es of k
  have hol:=h.1
  simp only [mallongelaw06_GraphGroups_l5_s,lt_t hk,if_true,at_el _ _ hk,Option.bind_some,wrap_succ (show k < 9223372036854775807 by omega)]
  rw [if_pos ⟨h0.1,by omega⟩,get_el of _ (by omega),Option.bind_some,if_pos ⟨h1.1,by omega⟩,get_el of _ (by omega),Option.bind_some]
  have hw:∀ m:Nat,m < 9223372036854775807→IntKind.wrap .i64 (((m + 1:Nat):Int) - 1) = ((m + 1:Nat):Int) - 1:=fun m hm=>wrap_id (by omega) (by omega)
  rw [e1,e2,hw i (by omega),hw j (by omega),btw_succ hk,e1,e2]
  by_cases q:i = j
  ·subst q; rw [if_neg (by simp),if_neg (by simp)]
  ·rw [if_pos (by simp; omega),if_pos (by omega),if_pos (by simp; omega)]
 ·simp only [mallongelaw06_GraphGroups_l5_s,lt_f,if_false]
theorem btw_edge {n:Nat} {es:List GArr2I} (hes:∀ e ∈ es,inE n e) {of:List Int} (h:ofG n es (leadsN n es).length of) (hz:∀ x,x < n→el of x ≠ 0) {e:GArr2I} (he:e ∈ btwG es of es.length) :
  ∃ i j,i < (leadsN n es).length ∧ j < (leadsN n es).length ∧ i ≠ j ∧ e = ⟨(i:Int),(j:Int)⟩ ∧ Rch (edg es) (el (leadsN n es) i) (el (leadsN n es) j):=by
 unfold btwG at he
 rw [List.take_length] at he
 obtain ⟨x,hx,rfl⟩:=List.mem_map.1 he
 obtain ⟨hx1,hx2⟩:=List.mem_filter.1 hx
 obtain ⟨h0,h1⟩:=hes x hx1
 obtain ⟨i,hi,e1,m1⟩:=h.get hz (show x.e0.toNat < n by omega)
 obtain ⟨j,hj,e2,m2⟩:=h.get hz (show x.e1.toNat < n by omega)
 refine ⟨i,j,hi,hj,fun q=>?_,?_,?_⟩
 ·subst q; rw [e1,e2] at hx2; simp at hx2
 ·rw [e1,e2]
  congr 1 <;> omega
 ·exact ((mutB_iff.1 m1).1.tail ⟨x,hx1,by omega,by omega⟩).trans (mutB_iff.1 m2).2
theorem btw_no_cl {n:Nat} {es:List GArr2I} (hes:∀ e ∈ es,inE n e) {of:List Int} (h:ofG n es (leadsN n es).length of) (hz:∀ x,x < n→el of x ≠ 0) {s k:Nat} (hc:Cl (edg (btwG es of es.length)) s k):False:=by
 have hE:∀ a b,edg (btwG es of es.length) a b→a < (leadsN n es).length ∧ b < (leadsN n es).length ∧ a ≠ b ∧ Rch (edg es) (el (leadsN n es) a) (el (leadsN n es) b):=by
  rintro a b ⟨e,he,h1,h2⟩
  obtain ⟨i,j,hi,hj,hne,rfl,hr⟩:=btw_edge hes h hz he
  obtain rfl:i = a:=by have h1:(i:Int) = a:=h1; omega
  obtain rfl:j = b:=by have h2:(j:Int) = b:=h2; omega
  exact ⟨hi,hj,hne,hr⟩
 have hT:∀ k b,Tos (edg (btwG es of es.length)) s k b→Rch (edg es) (el (leadsN n es) b) (el (leadsN n es) s):=by
  intro k b t
  induction t with
  | zero=>exact .refl
  | succ _ e _ ih=>exact (hE _ _ e).2.2.2.trans ih
 obtain ⟨b,h1,h2⟩:=hc
 obtain ⟨q1,q2,q3,q4⟩:=hE _ _ h1
 exact q3 (leads_inj q1 q2 (mutB_iff.2 ⟨q4,hT k b h2⟩))
theorem btw_right {n:Nat} {es:List GArr2I} (hn:n ≤ 300) (hl:es.length ≤ 200) (hes:∀ e ∈ es,inE n e) {of:List Int} (h:ofG n es (leadsN n es).length of) (hz:∀ x,x < n→el of x ≠ 0):rightG ((leadsN n es).length:Int) (btwG es of es.length):=by
 have hin:=leadsN_len n es
 have hb:=btw_len es of es.length
 refine ⟨⟨by omega,by omega⟩,by omega,fun e he=>?_⟩
 obtain ⟨i,j,hi,hj,hne,rfl,hr⟩:=btw_edge hes h hz he
 unfold inE
 simp only [Int.toNat_natCast]
 omega
theorem law06_groups (hsane:mallongelaw06_sane = some true) (n:Int) (es:List GArr2I) (a b:Int):mallongelaw06_GraphGroups n es a b = some true:=by
 unfold mallongelaw06_GraphGroups
 rw [hsane,Option.bind_some,gmid_eq,Option.bind_some]
 by_cases hm:midG n es
 ·rw [decide_eq_true hm,if_neg (by simp)]
  by_cases h1:a < 0
  ·rw [if_pos (decide_eq_true h1)]
  rw [if_neg (by simpa using h1)]
  by_cases h2:a ≥ n
  ·rw [if_pos (decide_eq_true h2)]
  rw [if_neg (by simpa using h2)]
  by_cases h3:b < 0
  ·rw [if_pos (decide_eq_true h3)]
  rw [if_neg (by simpa using h3)]
  by_cases h4:b ≥ n
  ·rw [if_pos (decide_eq_true h4)]
  rw [if_neg (by simpa using h4)]
  obtain ⟨m,rfl⟩ : ∃ m:Nat,n = m:=⟨n.toNat,by have:=hm.2.2.1.1; omega⟩
  obtain ⟨x,rfl⟩ : ∃ x:Nat,a = x:=⟨a.toNat,by omega⟩
  obtain ⟨y,rfl⟩ : ∃ y:Nat,b = y:=⟨b.toNat,by omega⟩
  have hx:x < m:=by omega
  have hy:y < m:=by omega
  have hl:=hm.2.1
  have hm40:m ≤ 40:=by have:=hm.1; omega
  have hes:∀ e ∈ es,inE m e:=by have:=hm.2.2.2.2; simpa using this
  obtain ⟨of,p1,p2,p3⟩:=ggroups_l3 (n:=m) (es:=es) (by omega) (x:Int) (y:Int) true
  have hof:=p2.1
  rw [Groups_eq hm.2.2,Option.bind_some,if_pos (by omega),Int.toNat_natCast,p1,Option.bind_some,Sum.elim_inl,Reach_eq,if_pos ⟨hm.2.2,by omega,by omega⟩,Option.bind_some,Reach_eq,if_pos ⟨hm.2.2,by omega,by omega⟩,Option.bind_some]
  simp only [Int.toNat_natCast,reachL_len]
  rw [if_neg (by simp),if_neg (by simp),if_neg (by simp)]
  have l4:mallongelaw06_GraphGroups_l4 (m:Int) es (x:Int) (y:Int) true (gl (groupsN m es)) (reachL m es x) (reachL m es y) ((m:Int),of) 0 = some (.inl ()):=by
   unfold mallongelaw06_GraphGroups_l4
   refine iter_all (step:=fun w=>mallongelaw06_GraphGroups_l4_s (m:Int) es (x:Int) (y:Int) true (gl (groupsN m es)) (reachL m es x) (reachL m es y) ((m:Int),of) w) (fun k:Nat=>(k:Int)) m (.inl ()) ?_ ?_
   ·intro k hk
    simp only [mallongelaw06_GraphGroups_l4_s,lt_t hk,if_true,Int.toNat_natCast]
    rw [if_pos ⟨by omega,by omega⟩,get_el of k (by omega),Option.bind_some,if_neg (by rw [beq_iff_eq]; exact p3 k hk),wrap_succ (by omega)]
   ·simp only [mallongelaw06_GraphGroups_l4_s,lt_f,if_false]
  rw [l4,Option.bind_some,Sum.elim_inl,ggroups_l5 (by omega) hes hl p2 p3,Option.bind_some,if_pos trivial,if_pos ⟨by omega,by omega⟩,get_el of x (by omega),Option.bind_some,if_pos ⟨by omega,by omega⟩,get_el of y (by omega),Option.bind_some,
   at_el _ _ (by rw [reachL_len]; exact hy),Option.bind_some,reachL_el hy]
  obtain ⟨c,q1,q2⟩:=Cycle_eq (btw_right (by omega) hl hes p2 p3)
  have hc0:c = []:=by
   rcases q2.1 with ⟨q,_⟩ | ⟨q,_⟩
   ·exact q
   ·exact (btw_no_cl hes p2 p3 q.cl).elim
  subst hc0
  have hgl:((gl (groupsN m es)).length:Int) = ((leadsN m es).length:Int):=by rw [gl_len,groupsN_len]
  have hs:=p2.same p3 hx hy
  rw [hgl,q1]
  have hmb:mutB es x y = (rchB es x y && rchB es y x):=rfl
  cases r1:rchB es x y with
  | true =>
   simp only [if_true]
   rw [at_el _ _ (by rw [reachL_len]; exact hx),Option.bind_some,reachL_el hx]
   have:(el of x == el of y) = rchB es y x:=by
    rw [Bool.eq_iff_iff,beq_iff_eq,hs,hmb,r1,Bool.true_and]
   rw [this,if_pos (by simp)]
   rfl
  | false =>
   simp only [Bool.false_eq_true,if_false]
   have:(el of x == el of y) = false:=by
    rw [Bool.eq_false_iff]
    intro q
    rw [beq_iff_eq,hs,hmb,r1] at q
    cases q
   rw [this,if_pos (by simp)]
   rfl
 ·rw [decide_eq_false hm,if_pos (by simp)]
end Go.Proofs.Ytlpgfmnicomjjaa
