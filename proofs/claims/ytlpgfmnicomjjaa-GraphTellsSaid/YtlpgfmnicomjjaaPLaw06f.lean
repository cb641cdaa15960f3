/- The laws of layer 06 (graph): GraphTells. -/
import Derived.Test.YtlpgfmnicomjjaaPRef06
set_option linter.unusedVariables false
set_option linter.unusedSimpArgs false
namespace Go.Proofs.Ytlpgfmnicomjjaa
open Go.RowKit Vm
theorem edgP_eq (es:List GArr2I) (a b:Int):edgP (prs es) a b = edgB es a b:=by
 unfold edgP edgB prs
 rw [List.any_map]
 rfl
theorem firstL_at {f:Int→List Int} {x:Int} (hx:f x ≠ []):∀ (d:Nat) (b:Int),b ≤ x→x < b + d→(∀ y,b ≤ y→y < x→f y = [])→firstL f b d = f x
 | 0,b,h1,h2,_=>by omega
 | d + 1,b,h1,h2,h3=>by
  by_cases e:b = x
  ·subst e; rw [firstL,if_neg hx]
  ·rw [firstL,if_pos (h3 b (Int.le_refl _) (by omega))]
   exact firstL_at hx d (b + 1) (by omega) (by omega) fun y q1 q2=>h3 y (by omega) q2
theorem firstL_ne {f:Int→List Int}:∀ (d:Nat) (b:Int),firstL f b d ≠ []→∃ x,b ≤ x ∧ x < b + d ∧ f x ≠ []
 | 0,_,h=>absurd rfl h
 | d + 1,b,h=>by
  by_cases e:f b = []
  ·rw [firstL,if_pos e] at h
   obtain ⟨x,h1,h2,h3⟩:=firstL_ne d (b + 1) h
   exact ⟨x,by omega,by omega,h3⟩
  ·exact ⟨b,Int.le_refl _,by omega,e⟩
theorem head_ci (P:List Nat) (h:0 < P.length):headI (ci P) = ((el P 0:Nat):Int):=by
 have:=ci_el P 0 h
 unfold headI
 exact this
theorem last_ci (P:List Nat) (h:0 < P.length):lastI (ci P) = ((el P (P.length - 1):Nat):Int):=by
 have:=ci_el P (P.length - 1) (by omega)
 unfold lastI
 rw [ci_len]
 exact this
theorem snoc_last (P:List Nat) (b:Nat):el (P ++ [b]) ((P ++ [b]).length - 1) = b:=by
 rw [List.length_append,List.length_singleton,Nat.add_sub_cancel,el_append_last]
theorem close_way {n:Nat} {es:List GArr2I} (hes:∀ e ∈ es,inE n e):∀ (m:Nat) (P:List Nat),0 < P.length→closeL (prs es) n m (ci P) ≠ []→∃ b,edg es (el P (P.length - 1)) b ∧ Tos (edg es) (el P 0) m b
 | 0,P,hP,h=>by
  simp only [closeL,edgP_eq,head_ci P hP,last_ci P hP] at h
  by_cases c:edgB es ((el P (P.length - 1):Nat):Int) ((el P 0:Nat):Int) = true
  ·exact ⟨_,edgB_edg.1 c,.zero⟩
  ·rw [if_neg c] at h; exact absurd rfl h
 | m + 1,P,hP,h=>by
  simp only [closeL,edgP_eq,head_ci P hP,last_ci P hP] at h
  obtain ⟨x,h1,h2,h3⟩:=firstL_ne _ _ h
  by_cases c:edgB es ((el P (P.length - 1):Nat):Int) x = true
  ·rw [if_pos c] at h3
   obtain ⟨i,j,e1,rfl,e3,e4,e5⟩:=edgB_nat hes c
   rw [ci_snoc] at h3
   obtain ⟨b,q1,q2⟩:=close_way hes m (P ++ [j]) (by simp) h3
   rw [snoc_last,el_append_lt _ _ _ hP] at *
   refine ⟨j,edgB_edg.1 c,.succ (by omega) q1 q2⟩
  ·rw [if_neg c] at h3; exact absurd rfl h3
theorem close_cyc {n:Nat} {es:List GArr2I} (hes:∀ e ∈ es,inE n e) {c:List Nat} (hc:CycG (edg es) c) (hlt:∀ i,i < c.length→el c i < n):∀ (m i:Nat),0 < i→i + m = c.length→closeL (prs es) n m (ci (c.take i)) = ci c
 | 0,i,h0,hi=>by
  have hpos:=hc.pos
  obtain rfl:i = c.length:=by omega
  rw [List.take_length]
  simp only [closeL,edgP_eq,head_ci c hpos,last_ci c hpos]
  have:=hc.close (show c.length - 1 < c.length by omega)
  rw [show c.length - 1 + 1 = c.length by omega,Nat.mod_self] at this
  rw [if_pos (edgB_edg.2 this)]
 | m + 1,i,h0,hi=>by
  have hpos:=hc.pos
  have hil:i < c.length:=by omega
  have htl:(c.take i).length = i:=by rw [List.length_take]; omega
  have ht0:0 < (c.take i).length:=by omega
  have eh:el (c.take i) 0 = el c 0:=by unfold el; rw [List.getD_eq_getElem?_getD,List.getD_eq_getElem?_getD,List.getElem?_take_of_lt h0]
  have elast:el (c.take i) ((c.take i).length - 1) = el c (i - 1):=by rw [htl]; unfold el; rw [List.getD_eq_getElem?_getD,List.getD_eq_getElem?_getD,List.getElem?_take_of_lt (by omega)]
  have hsn:ci (c.take i) ++ [((el c i:Nat):Int)] = ci (c.take (i + 1)):=by
   rw [ci_snoc,List.take_add_one,List.getElem?_eq_getElem hil,← el_lt c i hil]; rfl
  have ih:=close_cyc hes hc hlt m (i + 1) (by omega) (by omega)
  have hstep:=hc.step (i - 1) (by omega)
  rw [show i - 1 + 1 = i by omega] at hstep
  have hgt:=hc.gt h0 hil
  have hlt2:=hlt i hil
  have hF:(if edgP (prs es) (lastI (ci (c.take i))) ((el c i:Nat):Int) = true then closeL (prs es) n m (ci (c.take i) ++ [((el c i:Nat):Int)]) else []) = ci c:=by
   rw [edgP_eq,last_ci _ ht0,elast,if_pos (edgB_edg.2 hstep),hsn,ih]
  have hne:ci c ≠ []:=by
   intro q
   have:=congrArg List.length q
   rw [ci_len] at this
   simp at this; rw [this] at hpos; simp at hpos
  show firstL (fun b=>if edgP (prs es) (lastI (ci (c.take i))) b = true then closeL (prs es) n m (ci (c.take i) ++ [b]) else []) (headI (ci (c.take i)) + 1) ((n:Int) - (headI (ci (c.take i)) + 1)).toNat = ci c
  rw [head_ci _ ht0,eh,firstL_at (x:=((el c i:Nat):Int)) (by rw [hF]; exact hne) _ _ (by omega) (by omega) ?_,hF]
  intro y hy1 hy2
  by_cases q:edgP (prs es) (lastI (ci (c.take i))) y = true
  ·rw [if_pos q]
   rw [edgP_eq,last_ci _ ht0,elast] at q
   obtain ⟨u,v,e1,rfl,e3,e4,e5⟩:=edgB_nat hes q
   rw [ci_snoc]
   apply Classical.byContradiction
   intro hx
   obtain ⟨b,q1,q2⟩:=close_way hes m (c.take i ++ [v]) (by simp) hx
   rw [snoc_last,el_append_lt _ _ _ ht0,eh] at *
   have hT:Tos (edg es) (el c 0) (m + 1) v:=.succ (by omega) q1 q2
   have:=hc.least (i - 1) (by omega) v (edgB_edg.1 q) (by rw [show c.length - (i - 1 + 1) = m + 1 by omega]; exact hT)
   rw [show i - 1 + 1 = i by omega] at this
   omega
  ·rw [if_neg q]
theorem closing_eq {n:Nat} {es:List GArr2I} (h:rightG n es) {a m:Nat} (ha:a < n) (hm:m ≤ n):mallongeref06_closing (n:Int) es [(a:Int)] ((m:Nat):Int) = some (closeL (prs es) n m (ci [a])):=by
 have hn:n ≤ 300:=by have:=h.1.2; omega
 have hl:=h.2.1
 unfold mallongeref06_closing
 rw [if_pos,Int.toNat_natCast]
 ·rfl
 ·unfold okC
  have:headI [(a:Int)] = (a:Int):=rfl
  rw [this]
  apply decide_eq_true
  simp only [List.length_map,List.length_singleton,Int.toNat_natCast]
  omega
theorem CycG.len_le {E:Nat→Nat→Prop} {n:Nat} {c:List Nat} (h:CycG E c) (hlt:∀ i,i < c.length→el c i < n):c.length ≤ n:=by
 refine nodN_le n c ?_ (fun x hx=>by
  obtain ⟨i,hi,rfl⟩:=mem_el hx
  exact hlt i hi)
 unfold List.Nodup
 rw [List.pairwise_iff_getElem]
 intro i j hi hj hij e
 have h1:=h.tos j (by omega) hj
 rw [← el_lt c i hi,← el_lt c j hj] at *
 by_cases e0:i = 0
 ·subst e0
  have:=h.gt (show 0 < j by omega) hj
  omega
 ·have hsh:∀ x d,i - d = x→d ≤ i→0 < d→∃ q,q < c.length - d ∧ Tos E (el c 0) q (el c d):=by
   intro x
   induction x with
   | zero =>
    intro d hd h1' h2'
    have:d = i:=by omega
    subst this
    exact ⟨c.length - j,by omega,by rw [e]; exact h1⟩
   | succ x ih =>
    intro d hd h1' h2'
    obtain ⟨q,q1,q2⟩:=ih (d + 1) (by omega) (by omega) (by omega)
    exact ⟨q + 1,by omega,.succ (h.gt h2' (by omega)) (h.step d (by omega)) q2⟩
  obtain ⟨q,q1,q2⟩:=hsh (i - 1) 1 rfl (by omega) (by omega)
  have:=h.min q ⟨_,h.step 0 (by omega),q2⟩
  omega
theorem rCycle_eq {n:Nat} {es:List GArr2I} (h:rightG n es) {c:List Nat} (hc:CycSpec (edg es) n c):mallongeref06_Cycle (n:Int) es = some (ci c):=by
 have hes:∀ e ∈ es,inE n e:=by have:=h.2.2; simpa using this
 have hl:=h.2.1
 have hn:n ≤ 300:=by have:=h.1.2; omega
 have l2:∃ x,mallongeref06_Cycle_l2 (n:Int) es 1 = some x ∧ (Sum.elim (fun z11:Unit=>some ([]:List Int)) (fun z12:List Int=>some z12) x) = some (ci c):=by
  unfold mallongeref06_Cycle_l2
  refine iter_for (step:=fun w=>mallongeref06_Cycle_l2_s (n:Int) es w) (fun (k:Nat) (_:Unit)=>((k + 1:Nat):Int)) n (fun k _=>∀ a,a < n→∀ j,j < k→¬ Cl (edg es) a j) _ ?_ ?_ () (fun a _ j hj=>absurd hj (Nat.not_lt_zero _))
  ·rintro k _ hk hno
   have hw:IntKind.wrap .i64 (((k + 1:Nat):Int) - 1) = (k:Int):=by rw [wrap_id (by omega) (by omega)]; omega
   have l1:∃ x,mallongeref06_Cycle_l1 (n:Int) es ((k + 1:Nat):Int) 0 = some x ∧ ((x = .inl () ∧ ∀ a,a < n→¬ Cl (edg es) a k) ∨ x = .inr (ci c)):=by
    unfold mallongeref06_Cycle_l1
    refine iter_for (step:=fun w=>mallongeref06_Cycle_l1_s (n:Int) es ((k + 1:Nat):Int) w) (fun (a:Nat) (_:Unit)=>(a:Int)) n (fun a _=>∀ b,b < a→¬ Cl (edg es) b k) _ ?_ ?_ () (fun b hb=>absurd hb (Nat.not_lt_zero _))
    ·rintro a _ ha hb
     simp only [mallongeref06_Cycle_l1_s,lt_t ha,if_true,hw,closing_eq h ha (show k ≤ n by omega),Option.bind_some,wrap_succ (show a < 9223372036854775807 by omega)]
     by_cases e:closeL (prs es) n k (ci [a]) = []
     ·rw [e]
      refine .inl ⟨(),by simp,fun b hb'=>?_⟩
      by_cases eb:b = a
      ·subst eb
       intro hcl
       -- then the cycle would begin here
       obtain ⟨hcy,hle⟩:=hc.some ha hcl
       have hlen:c.length = k + 1:=by
        have:¬ c.length - 1 < k:=fun q=>hno _ (hc.2 0 hcy.pos) _ q hcy.cl
        have:=hcy.pos
        omega
       have h0:el c 0 = b:=by
        rcases hc.1 with ⟨q,_⟩ | ⟨_,q⟩
        ·rw [q] at hlen; simp at hlen
        ·have q1:=(q b ha k hcl).2 hlen
         rcases Nat.lt_or_ge (el c 0) b with q2 | q2
         ·have:=hcy.cl
          rw [hlen,Nat.add_sub_cancel] at this
          exact absurd this (hb _ q2)
         ·omega
       have:=close_cyc hes hcy hc.2 k 1 (by omega) (by omega)
       have ht:c.take 1 = [b]:=by
        rw [List.take_add_one,List.take_zero,List.getElem?_eq_getElem (by omega),← el_lt c 0 (by omega),h0]; rfl
       rw [ht,e] at this
       have:=congrArg List.length this
       rw [ci_len] at this
       simp at this
       omega
      ·exact hb b (by omega)
     ·refine .inr ⟨.inr (closeL (prs es) n k (ci [a])),?_,.inr ?_⟩
      ·have:closeL (prs es) n k (ci [a]) ≠ []:=e
       cases hx:closeL (prs es) n k (ci [a]) with
       | nil=>exact absurd hx this
       | cons y ys=>simp
      ·obtain ⟨b,q1,q2⟩:=close_way hes k [a] (by simp) e
       have hcl:Cl (edg es) a k:=⟨b,q1,q2⟩
       obtain ⟨hcy,hle⟩:=hc.some ha hcl
       have hlen:c.length = k + 1:=by
        have:¬ c.length - 1 < k:=fun q=>hno _ (hc.2 0 hcy.pos) _ q hcy.cl
        have:=hcy.pos
        omega
       have h0:el c 0 = a:=by
        rcases hc.1 with ⟨q,_⟩ | ⟨_,q⟩
        ·rw [q] at hlen; simp at hlen
        ·have q1:=(q a ha k hcl).2 hlen
         rcases Nat.lt_or_ge (el c 0) a with q2 | q2
         ·have:=hcy.cl
          rw [hlen,Nat.add_sub_cancel] at this
          exact absurd this (hb _ q2)
         ·omega
       have:=close_cyc hes hcy hc.2 k 1 (by omega) (by omega)
       have ht:c.take 1 = [a]:=by
        rw [List.take_add_one,List.take_zero,List.getElem?_eq_getElem (by omega),← el_lt c 0 (by omega),h0]; rfl
       rw [ht] at this
       rw [this]
    ·rintro _ hb
     exact ⟨.inl (),by simp only [mallongeref06_Cycle_l1_s,lt_f,if_false],.inl ⟨rfl,fun a ha=>hb a ha⟩⟩
   obtain ⟨x,q1,q2⟩:=l1
   simp only [mallongeref06_Cycle_l2_s]
   rw [if_pos (decide_eq_true (by omega)),q1,Option.bind_some]
   rcases q2 with ⟨rfl,q2⟩ | rfl
   ·refine .inl ⟨(),by rw [Sum.elim_inl,wrap_succ (by omega)],fun a ha j hj=>?_⟩
    by_cases e:j = k
    ·subst e; exact q2 a ha
    ·exact hno a ha j (by omega)
   ·exact .inr ⟨.inr (ci c),rfl,rfl⟩
  ·rintro _ hno
   refine ⟨.inl (),?_,?_⟩
   ·simp only [mallongeref06_Cycle_l2_s]
    rw [if_neg (by simp; omega)]
   ·rcases hc.1 with ⟨q,_⟩ | ⟨q,_⟩
    ·rw [q]; rfl
    ·exfalso
     have:=q.len_le hc.2
     have:=q.pos
     exact hno (el c 0) (hc.2 0 q.pos) (c.length - 1) (by omega) q.cl
 obtain ⟨x,q1,q2⟩:=l2
 unfold mallongeref06_Cycle
 rw [rright_eq,Option.bind_some,decide_eq_true h,if_neg (by simp),q1,Option.bind_some]
 exact q2
theorem sameI_refl (l:List Int) (hl:l.length < 9223372036854775807):mallongeref06_SameInts l l = some true:=by
 unfold mallongeref06_SameInts
 have:mallongeref06_SameInts_l1 l l 0 = some (.inl ()):=by
  refine iter_all (step:=fun w=>mallongeref06_SameInts_l1_s l l w) (fun i=>(i:Int)) l.length _ ?_ ?_
  ·intro i hi
   simp only [mallongeref06_SameInts_l1_s,lt_t hi,if_true,at_el _ _ hi,Option.bind_some,wrap_succ (show i < 9223372036854775807 by omega),bne_self_eq_false,Bool.false_eq_true,if_false]
  ·simp only [mallongeref06_SameInts_l1_s,lt_f,if_false]
 rw [this]
 simp
theorem sameB_refl (l:List Bool) (hl:l.length < 9223372036854775807):mallongeref06_SameBools l l = some true:=by
 unfold mallongeref06_SameBools
 have:mallongeref06_SameBools_l1 l l 0 = some (.inl ()):=by
  refine iter_all (step:=fun w=>mallongeref06_SameBools_l1_s l l w) (fun i=>(i:Int)) l.length _ ?_ ?_
  ·intro i hi
   simp only [mallongeref06_SameBools_l1_s,lt_t hi,if_true,at_el _ _ hi,Option.bind_some,wrap_succ (show i < 9223372036854775807 by omega),beq_self_eq_true,Bool.not_true,Bool.false_eq_true,if_false]
  ·simp only [mallongeref06_SameBools_l1_s,lt_f,if_false]
 rw [this]
 simp
theorem sameL_refl (l:List (List Int)) (hl:l.length < 9223372036854775807) (hi:∀ x ∈ l,x.length < 9223372036854775807):mallongeref06_SameLists l l = some true:=by
 unfold mallongeref06_SameLists
 have:mallongeref06_SameLists_l1 l l 0 = some (.inl ()):=by
  refine iter_all (step:=fun w=>mallongeref06_SameLists_l1_s l l w) (fun i=>(i:Int)) l.length _ ?_ ?_
  ·intro i hi'
   simp only [mallongeref06_SameLists_l1_s,lt_t hi',if_true,at_el _ _ hi',Option.bind_some,sameI_refl _ (hi _ (el_mem l i hi')),wrap_succ (show i < 9223372036854775807 by omega),Bool.not_true,Bool.false_eq_true,if_false]
  ·simp only [mallongeref06_SameLists_l1_s,lt_f,if_false]
 rw [this]
 simp
theorem law06_tells (hsane:mallongelaw06_sane = some true) (n:Int) (es:List GArr2I) (f:Int):mallongelaw06_GraphTells n es f = some true:=by
 unfold mallongelaw06_GraphTells
 rw [hsane,Option.bind_some]
 have hfew:∃ b,mallongelaw06_few n es = some b:=by
  unfold mallongelaw06_few
  (repeat' split) <;> exact ⟨_,rfl⟩
 obtain ⟨b,hb⟩:=hfew
 rw [hb,Option.bind_some]
 cases b with
 | false=>rfl
 | true =>
  rw [if_neg (by simp)]
  by_cases h:rightG n es
  ·obtain ⟨m,rfl⟩ : ∃ m:Nat,n = m:=⟨n.toNat,by have:=h.1.1; omega⟩
   have hm:m ≤ 300:=by have:=h.1.2; omega
   obtain ⟨r,e1,hO⟩:=Order_eq h
   obtain ⟨r',e2,hO'⟩:=rOrder_eq h
   have:r' = r:=hO'.unique hO
   subst this
   obtain ⟨c,e3,hC⟩:=Cycle_eq h
   have hrl:r'.1.length < 9223372036854775807:=by
    rcases hO with ⟨l,rfl,q,_⟩ | ⟨rfl,_⟩
    ·show (ci l).length < _; rw [ci_len]; omega
    ·simp
   have hcl:(ci c).length < 9223372036854775807:=by
    rw [ci_len]
    rcases hC.1 with ⟨q,_⟩ | ⟨q,_⟩
    ·rw [q]; simp
    ·have:=q.len_le hC.2; omega
   have hR:∀ l:List Bool,(if rightG (m:Int) es ∧ 0 ≤ f ∧ f < (m:Int) then reachL (m:Int).toNat es f.toNat else []) = l→l.length < 9223372036854775807:=by
    intro l hl
    subst hl
    split
    ·rw [reachL_len]; omega
    ·simp
   have hL:=leadsN_len m es
   rw [e1,Option.bind_some,e2,Option.bind_some,if_neg (by simp),sameI_refl _ hrl,Option.bind_some,if_neg (by simp),Reach_eq,Option.bind_some,rReach_eq,Option.bind_some,sameB_refl _ (hR _ rfl),Option.bind_some,if_neg (by simp),if_pos rfl,e3,Option.bind_some,rCycle_eq h hC,Option.bind_some,sameI_refl _ hcl,Option.bind_some,if_pos rfl,
    Groups_eq h,Option.bind_some,rGroups_eq h,Option.bind_some,sameL_refl _ (by rw [gl_len,groupsN_len]; omega) (fun x hx=>?_)]
   ·rfl
   ·unfold gl groupsN at hx
    simp only [List.map_map,List.mem_map,Function.comp_apply] at hx
    obtain ⟨a,_,rfl⟩:=hx
    rw [ci_len]
    have:=grpN_len m es a
    omega
  ·have o1:mgraph_Order n es = some ([],false):=by unfold mgraph_Order; rw [right_eq,Option.bind_some,decide_eq_false h,if_pos (by simp)]
   have o2:mallongeref06_Order n es = some ([],false):=by unfold mallongeref06_Order; rw [rright_eq,Option.bind_some,decide_eq_false h,if_pos (by simp)]
   have c1:mgraph_Cycle n es = some []:=by unfold mgraph_Cycle; rw [right_eq,Option.bind_some,decide_eq_false h,if_pos (by simp)]
   have c2:mallongeref06_Cycle n es = some []:=by unfold mallongeref06_Cycle; rw [rright_eq,Option.bind_some,decide_eq_false h,if_pos (by simp)]
   have g1:mgraph_Groups n es = some []:=by unfold mgraph_Groups; rw [right_eq,Option.bind_some,decide_eq_false h,if_pos (by simp)]
   have g2:mallongeref06_Groups n es = some []:=by unfold mallongeref06_Groups; rw [rright_eq,Option.bind_some,decide_eq_false h,if_pos (by simp)]
   have s1:=sameI_refl [] (by simp)
   have s2:=sameB_refl [] (by simp)
   have s3:=sameL_refl [] (by simp) (by simp)
   rw [o1,Option.bind_some,o2,Option.bind_some,if_neg (by simp),s1,Option.bind_some,if_neg (by simp),Reach_eq,Option.bind_some,rReach_eq,Option.bind_some,if_neg (fun q=>h q.1),s2,Option.bind_some,if_neg (by simp),if_pos rfl,c1,Option.bind_some,c2,Option.bind_some,s1,Option.bind_some,if_pos rfl,g1,Option.bind_some,g2,Option.bind_some,s3]
   rfl
end Go.Proofs.Ytlpgfmnicomjjaa
