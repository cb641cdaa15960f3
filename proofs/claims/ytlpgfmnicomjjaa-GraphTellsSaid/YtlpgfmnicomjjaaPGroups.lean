/- Layer 6 (graph): groups of nodes that reach each other. -/
import Derived.Test.YtlpgfmnicomjjaaPLaw06c
set_option linter.unusedVariables false
set_option linter.unusedSimpArgs false
namespace Go.Proofs.Ytlpgfmnicomjjaa
open Go.RowKit Vm
noncomputable def mutB (es:List GArr2I) (a b:Nat):Bool:=rchB es a b && rchB es b a
theorem mutB_iff {es:List GArr2I} {a b:Nat}:mutB es a b = true ↔ Rch (edg es) a b ∧ Rch (edg es) b a:=by
 unfold mutB; rw [Bool.and_eq_true,rchB_iff,rchB_iff]
theorem mutB_refl (es:List GArr2I) (a:Nat):mutB es a a = true:=mutB_iff.2 ⟨.refl,.refl⟩
theorem mutB_symm {es:List GArr2I} {a b:Nat} (h:mutB es a b = true):mutB es b a = true:=by
 have:=mutB_iff.1 h
 exact mutB_iff.2 ⟨this.2,this.1⟩
theorem mutB_trans {es:List GArr2I} {a b c:Nat} (h:mutB es a b = true) (k:mutB es b c = true):mutB es a c = true:=by
 have h:=mutB_iff.1 h
 have k:=mutB_iff.1 k
 exact mutB_iff.2 ⟨h.1.trans k.1,k.2.trans h.2⟩
noncomputable def leadB (es:List GArr2I) (a:Nat):Bool:=allN (fun c=>!mutB es a c) a
theorem leadB_iff {es:List GArr2I} {a:Nat}:leadB es a = true ↔ ∀ c,c < a→¬ mutB es a c = true:=by
 unfold leadB
 rw [allN_iff]
 constructor
 ·intro h c hc q; have:=h c hc; rw [q] at this; cases this
 ·intro h c hc; cases e:mutB es a c with
  | false=>rfl
  | true=>exact absurd e (h c hc)
theorem lead_of (es:List GArr2I) (a:Nat):∃ c,c ≤ a ∧ mutB es a c = true ∧ leadB es c = true:=by
 have key:∀ n c,c ≤ n→c ≤ a→mutB es a c = true→∃ d,d ≤ a ∧ mutB es a d = true ∧ leadB es d = true:=by
  intro n
  induction n with
  | zero =>
   intro c hc ha hm
   refine ⟨c,ha,hm,leadB_iff.2 fun d hd=>by omega⟩
  | succ n ih =>
   intro c hc ha hm
   by_cases h:leadB es c = true
   ·exact ⟨c,ha,hm,h⟩
   ·have:∃ d,d < c ∧ mutB es c d = true:=Classical.byContradiction fun q=>h (leadB_iff.2 fun d hd hq=>q ⟨d,hd,hq⟩)
    obtain ⟨d,hd,hq⟩:=this
    exact ih d (by omega) (by omega) (mutB_trans hm hq)
 exact key a a (Nat.le_refl _) (Nat.le_refl _) (mutB_refl es a)
theorem lead_eq {es:List GArr2I} {a b:Nat} (ha:leadB es a = true) (hb:leadB es b = true) (h:mutB es a b = true):a = b:=by
 rcases Nat.lt_trichotomy a b with q | q | q
 ·exact absurd (mutB_symm h) (leadB_iff.1 hb a q)
 ·exact q
 ·exact absurd h (leadB_iff.1 ha b q)
noncomputable def grpN (n:Nat) (es:List GArr2I) (a:Nat):List Nat:=(List.range n).filter fun b=>mutB es a b
noncomputable def leadsN (n:Nat) (es:List GArr2I):List Nat:=(List.range n).filter fun a=>leadB es a
noncomputable def groupsN (n:Nat) (es:List GArr2I):List (List Nat):=(leadsN n es).map (grpN n es)
def gl (g:List (List Nat)):List (List Int):=g.map ci
theorem gl_len (g:List (List Nat)):(gl g).length = g.length:=by simp [gl]
theorem mem_leads {n:Nat} {es:List GArr2I} {a:Nat}:a ∈ leadsN n es ↔ a < n ∧ leadB es a = true:=by
 unfold leadsN
 rw [List.mem_filter,List.mem_range]
theorem leads_asc (n:Nat) (es:List GArr2I):(leadsN n es).Pairwise (· < ·):=List.Pairwise.filter _ List.pairwise_lt_range
theorem pw_el {l:List Nat} (h:l.Pairwise (· < ·)) {i j:Nat} (hij:i < j) (hj:j < l.length):el l i < el l j:=by
 rw [el_lt l i (by omega),el_lt l j hj]
 exact List.pairwise_iff_getElem.1 h i j (by omega) hj hij
noncomputable def grpTo (es:List GArr2I) (a b:Nat):List Nat:=(List.range b).filter fun x=>decide (a ≤ x) && mutB es a x
theorem grpTo_succ (es:List GArr2I) (a b:Nat):grpTo es a (b + 1) = if (decide (a ≤ b) && mutB es a b) = true then grpTo es a b ++ [b] else grpTo es a b:=by
 unfold grpTo
 rw [List.range_succ,List.filter_append]
 by_cases h:(decide (a ≤ b) && mutB es a b) = true
 ·rw [if_pos h]; simp only [List.filter_cons,h,if_true,List.filter_nil]
 ·rw [if_neg h]; simp only [List.filter_cons,h,List.filter_nil]; simp
theorem grpTo_start (es:List GArr2I) (a:Nat):grpTo es a a = []:=by
 unfold grpTo
 rw [List.filter_eq_nil_iff]
 intro x hx
 have:=List.mem_range.1 hx
 simp; omega
theorem grpTo_all {n:Nat} {es:List GArr2I} {a:Nat} (h:leadB es a = true):grpTo es a n = grpN n es a:=by
 unfold grpTo grpN
 apply List.filter_congr
 intro x hx
 cases e:mutB es a x with
 | false=>simp
 | true =>
  have:¬ x < a:=fun q=>leadB_iff.1 h x q e
  simp; omega
theorem grpTo_len (es:List GArr2I) (a b:Nat):(grpTo es a b).length ≤ b:=by
 have:=List.length_filter_le (fun x=>decide (a ≤ x) && mutB es a x) (List.range b)
 simpa [grpTo] using this
noncomputable def seenN (n:Nat) (es:List GArr2I):List (List Bool):=(List.range n).map fun a=>reachL n es a
theorem seenN_len (n:Nat) (es:List GArr2I):(seenN n es).length = n:=by simp [seenN]
theorem seenN_el {n:Nat} {es:List GArr2I} {a:Nat} (h:a < n):el (seenN n es) a = reachL n es a:=by
 rw [el_lt _ _ (by rw [seenN_len]; exact h)]; simp [seenN]
theorem groups_l1 {n:Nat} {es:List GArr2I} (hes:∀ e ∈ es,inE n e) (hl:es.length ≤ 2000) (hn:n ≤ 300):mgraph_Groups_l1 (n:Int) (rowsG n es) 0 (List.replicate n []) = some (seenN n es):=by
 have key:∃ x,mgraph_Groups_l1 (n:Int) (rowsG n es) 0 (List.replicate n []) = some x ∧ x = seenN n es:=by
  unfold mgraph_Groups_l1
  refine iter_for (step:=fun (w:Int × (List (List Bool)))=>mgraph_Groups_l1_s (n:Int) (rowsG n es) w.1 w.2) (fun (k:Nat) (l:List (List Bool))=>((k:Int),l)) n (fun k l=>l.length = n ∧ ∀ j,j < k→el l j = reachL n es j) _ ?_ ?_ _ ⟨by simp,fun j hj=>absurd hj (Nat.not_lt_zero _)⟩
  ·rintro k l hk ⟨h1,h2⟩
   refine .inl ⟨l.set k (reachL n es k),?_,by simp [h1],fun j hj=>?_⟩
   ·simp only [mgraph_Groups_l1_s,lt_t hk,if_true,reach_eq hes hl hn hk,Option.bind_some,Int.toNat_natCast,if_pos (show (0:Int) ≤ (k:Int) ∧ k < l.length from ⟨by omega,by omega⟩),get_el l k (by omega),wrap_succ (show k < 9223372036854775807 by omega)]
   ·rw [el_set _ _ _ _ (by omega)]
    by_cases e:j = k
    ·subst e; rw [if_pos rfl]
    ·rw [if_neg e]; exact h2 j (by omega)
  ·rintro l ⟨h1,h2⟩
   refine ⟨l,by simp only [mgraph_Groups_l1_s,lt_f,if_false],?_⟩
   apply ext_el (by rw [seenN_len]; exact h1)
   intro i hi
   rw [h2 i (by omega),seenN_el (by omega)]
 obtain ⟨x,h1,rfl⟩:=key
 exact h1
theorem groups_l2 {n:Nat} {es:List GArr2I} (hn:n ≤ 300) {a:Nat} (ha:a < n) (out:List (List Int)) {done:List Bool} (hd:done.length = n) :
  ∃ d,mgraph_Groups_l2 (n:Int) out (a:Int) (seenN n es) (a:Int) done [] = some (d,ci (grpTo es a n)) ∧ d.length = n ∧ ∀ x,x < n→el d x = (el done x || (decide (a ≤ x) && mutB es a x)):=by
 have key:∃ z,mgraph_Groups_l2 (n:Int) out (a:Int) (seenN n es) (a:Int) done [] = some z ∧ z.2 = ci (grpTo es a n) ∧ z.1.length = n ∧ ∀ x,x < n→el z.1 x = (el done x || (decide (a ≤ x) && mutB es a x)):=by
  unfold mgraph_Groups_l2
  have h:=iter_for (step:=fun (w:Int × (List Bool) × (List Int))=>mgraph_Groups_l2_s (n:Int) out (a:Int) (seenN n es) w.1 w.2.1 w.2.2) (fun (k:Nat) (z:List Bool × List Int)=>(((a + k:Nat):Int),z.1,z.2)) (n - a)
   (fun k z=>z.2 = ci (grpTo es a (a + k)) ∧ z.1.length = n ∧ ∀ x,x < n→el z.1 x = (el done x || (decide (a ≤ x) && decide (x < a + k) && mutB es a x)))
   (fun z=>z.2 = ci (grpTo es a n) ∧ z.1.length = n ∧ ∀ x,x < n→el z.1 x = (el done x || (decide (a ≤ x) && mutB es a x))) ?_ ?_ (done,[]) ⟨by rw [Nat.add_zero,grpTo_start]; rfl,hd,fun x hx=>by
    have:(decide (a ≤ x) && decide (x < a + 0) && mutB es a x) = false:=by
     by_cases c:a ≤ x
     ·simp; omega
     ·simp; omega
    rw [this,Bool.or_false]⟩
  ·exact h
  ·rintro k ⟨d,l⟩ hk ⟨h1,h2,h3⟩
   dsimp only at h1 h2 h3
   subst h1
   refine .inl ?_
   have hb:a + k < n:=by omega
   have hlen:=grpTo_len es a (a + k)
   have hat1:at? (reachL n es a) ((a + k:Nat):Int) = some (rchB es a (a + k)):=by rw [at_el _ _ (by rw [reachL_len]; exact hb),reachL_el hb]
   have hat2:at? (reachL n es (a + k)) (a:Int) = some (rchB es (a + k) a):=by rw [at_el _ _ (by rw [reachL_len]; exact ha),reachL_el ha]
   have hmut:mutB es a (a + k) = (rchB es a (a + k) && rchB es (a + k) a):=rfl
   simp only [mgraph_Groups_l2_s,lt_t hb,if_true,seenN_len,Int.toNat_natCast,if_pos (show (0:Int) ≤ (a:Int) ∧ a < n from ⟨by omega,ha⟩),if_pos (show (0:Int) ≤ ((a + k:Nat):Int) ∧ a + k < n from ⟨by omega,hb⟩),get_el (seenN n es) a (by rw [seenN_len]; exact ha),get_el (seenN n es) (a + k) (by rw [seenN_len]; exact hb),seenN_el ha,seenN_el hb,Option.bind_some,hat1,hat2,h2,get_el d (a + k) (by omega),ci_len,wrap_succ (show a + k < 9223372036854775807 by omega)]
   have hle:decide (a ≤ a + k) = true:=decide_eq_true (by omega)
   have no:mutB es a (a + k) = false→∃ z' : List Bool × List Int,(some (Sum.inl (((a + k + 1:Nat):Int),d,ci (grpTo es a (a + k)))):Option ((Int × List Bool × List Int) ⊕ (List Bool × List Int))) = some (Sum.inl (((a + (k + 1):Nat):Int),z'.1,z'.2)) ∧ z'.2 = ci (grpTo es a (a + (k + 1))) ∧ z'.1.length = n ∧ ∀ x,x < n→el z'.1 x = (el done x || (decide (a ≤ x) && decide (x < a + (k + 1)) && mutB es a x)):=by
    intro hm
    refine ⟨(d,ci (grpTo es a (a + k))),rfl,?_,h2,fun x hx=>?_⟩
    ·show ci (grpTo es a (a + k)) = ci (grpTo es a (a + k + 1))
     rw [grpTo_succ,hm,Bool.and_false,if_neg (by simp)]
    ·show el d x = _
     rw [h3 x hx]
     by_cases e:x = a + k
     ·subst e; rw [hm]; simp
     ·have:decide (x < a + k) = decide (x < a + (k + 1)):=by
       rw [Bool.eq_iff_iff,decide_eq_true_iff,decide_eq_true_iff]; omega
      rw [this]
   cases c1:rchB es a (a + k) with
   | false =>
    simp only [Bool.false_eq_true,if_false]
    exact no (by rw [hmut,c1]; rfl)
   | true =>
    cases c2:rchB es (a + k) a with
    | false =>
     simp only [Bool.false_eq_true,if_false,if_true]
     exact no (by rw [hmut,c1,c2]; rfl)
    | true =>
     simp only [if_true]
     rw [if_pos (by omega)]
     have hm:mutB es a (a + k) = true:=by rw [hmut,c1,c2]; rfl
     refine ⟨(d.set (a + k) true,ci (grpTo es a (a + k)) ++ [((a + k:Nat):Int)]),rfl,?_,by simp [h2],fun x hx=>?_⟩
     ·show ci (grpTo es a (a + k)) ++ [((a + k:Nat):Int)] = ci (grpTo es a (a + k + 1))
      rw [grpTo_succ,hm,hle,Bool.and_true,if_pos rfl,ci_snoc]
     ·show el (d.set (a + k) true) x = _
      rw [el_set _ _ _ _ (by omega)]
      by_cases e:x = a + k
      ·subst e
       rw [if_pos rfl,hm,hle,show decide (a + k < a + (k + 1)) = true from decide_eq_true (by omega)]; simp
      ·rw [if_neg e,h3 x hx]
       have:decide (x < a + k) = decide (x < a + (k + 1)):=by
        rw [Bool.eq_iff_iff,decide_eq_true_iff,decide_eq_true_iff]; omega
       rw [this]
  ·rintro ⟨d,l⟩ ⟨h1,h2,h3⟩
   dsimp only at h1 h2 h3
   have e:a + (n - a) = n:=by omega
   rw [e] at h1 h3
   refine ⟨(d,l),?_,h1,h2,fun x hx=>?_⟩
   ·simp only [mgraph_Groups_l2_s,e,lt_f,if_false]
   ·show el d x = _
    rw [h3 x hx,decide_eq_true hx,Bool.and_true]
 obtain ⟨⟨d,l⟩,h1,h2,h3,h4⟩:=key
 dsimp only at h2 h3 h4
 subst h2
 exact ⟨d,h1,h3,h4⟩
theorem Groups_eq {n:Nat} {es:List GArr2I} (h:rightG n es):mgraph_Groups (n:Int) es = some (gl (groupsN n es)):=by
 have hes:∀ e ∈ es,inE n e:=by have:=h.2.2; simpa using this
 have hl:=h.2.1
 have hn:n ≤ 300:=by have:=h.1.2; omega
 have l3:∃ x,mgraph_Groups_l3 (n:Int) (seenN n es) 0 (List.replicate n false) [] = some x ∧ x = gl (groupsN n es):=by
  unfold mgraph_Groups_l3
  refine iter_for (step:=fun (w:Int × (List Bool) × (List (List Int)))=>mgraph_Groups_l3_s (n:Int) (seenN n es) w.1 w.2.1 w.2.2) (fun (k:Nat) (z:List Bool × List (List Int))=>((k:Int),z.1,z.2)) n
   (fun k z=>z.2 = gl (((List.range k).filter fun a=>leadB es a).map (grpN n es)) ∧ z.1.length = n ∧ ∀ x,x < n→(el z.1 x = true ↔ ∃ a,a < k ∧ leadB es a = true ∧ mutB es a x = true)) (fun x=>x = gl (groupsN n es)) ?_ ?_ (List.replicate n false,[]) ⟨rfl,by simp,fun x hx=>by
    show el (List.replicate n false) x = true ↔ _
    rw [el_replicate _ _ _ hx]
    exact ⟨fun q=>by simp at q,fun ⟨a,q,_⟩=>absurd q (Nat.not_lt_zero _)⟩⟩
  ·rintro a ⟨d,out⟩ ha ⟨h1,h2,h3⟩
   dsimp only at h1 h2 h3
   subst h1
   refine .inl ?_
   have hd:=h3 a ha
   simp only [mgraph_Groups_l3_s,lt_t ha,if_true,Int.toNat_natCast,if_pos (show (0:Int) ≤ (a:Int) ∧ a < d.length from ⟨by omega,by omega⟩),get_el d a (by omega),Option.bind_some,wrap_succ (show a < 9223372036854775807 by omega)]
   cases c:el d a with
   | true =>
    obtain ⟨b,hb,hbl,hbm⟩:=hd.1 c
    have hnl:leadB es a = false:=by
     cases e:leadB es a with
     | false=>rfl
     | true=>have:=lead_eq hbl e hbm; omega
    simp only [if_true]
    refine ⟨(d,_),rfl,?_,h2,fun x hx=>?_⟩
    ·show gl _ = gl _
     rw [List.range_succ,List.filter_append]
     simp [hnl]
    ·show el d x = true ↔ _
     rw [h3 x hx]
     constructor
     ·rintro ⟨a',q1,q2⟩; exact ⟨a',by omega,q2⟩
     ·rintro ⟨a',q1,q2,q3⟩
      by_cases e:a' = a
      ·subst e; rw [hnl] at q2; cases q2
      ·exact ⟨a',by omega,q2,q3⟩
   | false =>
    have hlead:leadB es a = true:=by
     obtain ⟨b,hb,hbm,hbl⟩:=lead_of es a
     by_cases e:b = a
     ·subst e; exact hbl
     ·have:=hd.2 ⟨b,by omega,hbl,mutB_symm hbm⟩
      rw [c] at this; cases this
    obtain ⟨d',q1,q2,q3⟩:=groups_l2 (es:=es) hn ha (gl (((List.range a).filter fun a=>leadB es a).map (grpN n es))) h2
    simp only [Bool.false_eq_true,if_false]
    rw [q1,Option.bind_some]
    have hlen:(gl (((List.range a).filter fun a=>leadB es a).map (grpN n es))).length ≤ a:=by
     have:=List.length_filter_le (fun a=>leadB es a) (List.range a)
     rw [gl_len,List.length_map]
     simpa using this
    rw [if_pos (by omega)]
    refine ⟨(d',_),rfl,?_,q2,fun x hx=>?_⟩
    ·show gl _ ++ [ci (grpTo es a n)] = gl _
     rw [grpTo_all hlead,List.range_succ,List.filter_append]
     simp [gl,hlead]
    ·show el d' x = true ↔ _
     rw [q3 x hx,Bool.or_eq_true,h3 x hx]
     constructor
     ·rintro (⟨a',p1,p2⟩ | p)
      ·exact ⟨a',by omega,p2⟩
      ·rw [Bool.and_eq_true] at p
       exact ⟨a,by omega,hlead,p.2⟩
     ·rintro ⟨a',p1,p2,p3⟩
      by_cases e:a' = a
      ·subst e
       refine .inr ?_
       rw [p3,Bool.and_true]
       have:¬ x < a':=fun q=>leadB_iff.1 hlead x q p3
       exact decide_eq_true (by omega)
      ·exact .inl ⟨a',by omega,p2,p3⟩
  ·rintro ⟨d,out⟩ ⟨h1,h2,h3⟩
   exact ⟨out,by simp only [mgraph_Groups_l3_s,lt_f,if_false],h1⟩
 obtain ⟨x,q1,rfl⟩:=l3
 unfold mgraph_Groups
 rw [right_eq,Option.bind_some,decide_eq_true h,if_neg (by simp),next_eq h,Option.bind_some,if_pos (by omega)]
 simp only [Int.toNat_natCast]
 rw [groups_l1 hes hl hn,Option.bind_some,if_pos (by omega),q1]
 rfl
end Go.Proofs.Ytlpgfmnicomjjaa
