/- Law 42, the reference: growing due by due. -/
import Derived.Test.YtgipgbhlibafhaaPRef42d
set_option linter.unusedVariables false
set_option linter.unusedSimpArgs false
namespace Go.Proofs.Ytgipgbhlibafhaa
open Go.RowKit Vm
def ndB (t:Nat) (g:GClearingStep):Bool:=decide (g.due ≠ (t:Int))
section
variable {n:Nat} {dues:List GDue} {x:List Int}
theorem others_m (hlen:dues.length ≤ 100) {t:Nat} (ht:t < dues.length):mallongeref42_grow_l1 n dues t x ((stepsR dues (el x) 0 (t + 1)).map toR) 0 [] = some ((stepsR dues (el x) 0 t).map toR):=by
 have hfil:∀ l:List GClearingStep,l.length ≤ 1000→mallongeref42_grow_l1 n dues t x (l.map toR) 0 [] = some ((l.filter (ndB t)).map toR):=by
  intro l hll
  unfold mallongeref42_grow_l1
  suffices hh:∃ y,Iter (fun (w:Int × List GAllongeref42Step)=>mallongeref42_grow_l1_s n dues t x (l.map toR) w.1 w.2) (0,[]) = some y ∧ y = (l.filter (ndB t)).map toR by
   obtain ⟨y,h1,h2⟩:=hh
   rw [h2] at h1; exact h1
  refine iter_for (step:=fun (w:Int × List GAllongeref42Step)=>mallongeref42_grow_l1_s n dues t x (l.map toR) w.1 w.2) (fun k (a:List GAllongeref42Step)=>((k:Int),a)) l.length (fun k a=>a = ((l.take k).filter (ndB t)).map toR) _ ?_ ?_ _ (by simp)
  ·rintro k a hk rfl
   refine .inl ⟨_,?_,rfl⟩
   have hlA:(((l.take k).filter (ndB t)).map toR).length ≤ 1000:=by
    rw [List.length_map]
    exact Nat.le_trans (List.length_filter_le _ _) (by rw [List.length_take]; omega)
   rw [take_el l hk,List.filter_append,List.map_append]
   generalize ((l.take k).filter (ndB t)).map toR = A at *
   show mallongeref42_grow_l1_s n dues t x (l.map toR) k A = _
   unfold mallongeref42_grow_l1_s
   have c0:decide ((k:Int) < ((l.map toR).length:Int)) = true:=by rw [List.length_map]; simpa using hk
   have w3:IntKind.wrap .i64 ((k:Int) + 1) = ((k + 1:Nat):Int):=wrap_succ (by omega)
   have eG:at? (l.map toR) (k:Int) = some (toR (el l k)):=by rw [at?_nat,List.getElem?_map,atE l k hk]; rfl
   have cA:(A.length + 1) * 32 ≤ 140737488355328:=by omega
   simp only [if_pos c0,eG,Option.bind_some,if_pos cA,w3]
   by_cases e:(el l k).due = (t:Int)
   ·have e' : ¬ ((toR (el l k)).Due != (t:Int)) = true:=by show ¬ ((el l k).due != (t:Int)) = true; simpa using e
    have e2:¬ ndB t (el l k) = true:=by unfold ndB; simpa using e
    rw [if_neg e',List.filter_cons_of_neg e2,List.filter_nil,List.map_nil,List.append_nil]
   ·have e' : ((toR (el l k)).Due != (t:Int)) = true:=by show ((el l k).due != (t:Int)) = true; simpa using e
    have e2:ndB t (el l k) = true:=by unfold ndB; simpa using e
    rw [if_pos e',List.filter_cons_of_pos e2]
    rfl
  ·rintro a rfl
   rw [List.take_length]
   refine ⟨_,?_,rfl⟩
   show mallongeref42_grow_l1_s n dues t x (l.map toR) (l.length:Int) _ = _
   unfold mallongeref42_grow_l1_s
   rw [if_neg (by simp)]
 have hl:=stepsR_len (dues:=dues) (x:=x) 0 (t + 1)
 rw [hfil _ (by omega),stepsR_succ,List.filter_append]
 congr 2
 have h1:(stepsR dues (el x) 0 t).filter (ndB t) = stepsR dues (el x) 0 t:=by
  rw [List.filter_eq_self]
  intro g hg
  obtain ⟨i,b,_,hi,rfl,_⟩:=mem_stepsR.1 hg
  unfold ndB
  rw [decide_eq_true_eq]
  show (i:Int) ≠ t
  omega
 have h2:(stepG dues (el x) (0 + t)).filter (ndB t) = []:=by
  rw [List.filter_eq_nil_iff]
  intro g hg
  have:g ∈ stepsR dues (el x) t 1:=by unfold stepsR; simpa using hg
  obtain ⟨i,b,h1,hi,rfl,_⟩:=mem_stepsR.1 this
  unfold ndB
  rw [decide_eq_true_eq]
  show ¬ (i:Int) ≠ t
  omega
 rw [h1,h2,List.append_nil]
theorem way_ints {ks:List Nat} {l:List GClearingStep} (hk:∀ k ∈ ks,k < l.length):∀ j,j < (ks.reverse.map fun (k:Nat)=>(k:Int)).length→∃ k:Nat,el (ks.reverse.map fun (k:Nat)=>(k:Int)) j = k ∧ k < l.length ∧ k ∈ ks:=by
 intro j hj
 rw [List.length_map] at hj
 rw [el_map' (fun (k:Nat)=>(k:Int)) _ _ hj]
 have:=List.mem_reverse.1 (el_mem _ _ hj)
 exact ⟨_,rfl,hk _ this,this⟩
theorem ints_way {ks:List Nat} {k:Nat} (hk:k ∈ ks):∃ j,j < (ks.reverse.map fun (k:Nat)=>(k:Int)).length ∧ el (ks.reverse.map fun (k:Nat)=>(k:Int)) j = (k:Int):=by
 obtain ⟨j,hj,e⟩:=mem_el (List.mem_reverse.2 hk)
 exact ⟨j,by rw [List.length_map]; exact hj,by rw [el_map' (fun (k:Nat)=>(k:Int)) _ _ hj,e]⟩
theorem slide_m (h:OkD n dues) (hl:x.length = dues.length) (hB:Bald (frD dues) (ttD dues) (smD dues) n dues.length (el x)) {l:List GClearingStep} {Q:Nat→Bool→Prop} (S:StepsOf (frD dues) (ttD dues) (smD dues) dues.length (el x) Q ccT (l.map stpOf)) (hG:∀ g ∈ l,∃ i b,i < dues.length ∧ g = stpG dues (el x) i b ∧ 0 < (stpG dues (el x) i b).most)
  {a:Nat} (ha:a < dues.length) (hQ:∀ i b,Q i b→i ≠ a) (hxa:el x a < smD dues a) {last:List Int} {μ:Nat→Nat} {ks:List Nat} (w:Pth (l.map stpOf) last (frD dues a) ks (ttD dues a)) (hk:∀ k ∈ ks,k < l.length ∧ μ (el (l.map stpOf) k).src < μ (el (l.map stpOf) k).dst) :
  ∃ d,0 < d ∧ mallongeref42_slack dues x (l.map toR) (ks.reverse.map fun (k:Nat)=>(k:Int)) (smD dues a - el x a) = some d ∧ mallongeref42_turn (l.map toR) (ks.reverse.map fun (k:Nat)=>(k:Int)) x d = some (mvL (l.map stpOf) d x ks) ∧ d ≤ 1099511627776 ∧
   (ks.map fun k=>(el (l.map stpOf) k).due.toNat).Nodup ∧ el (mvL (l.map stpOf) d x ks) a = el x a ∧ ((mvL (l.map stpOf) d x ks).set a (el x a + d)).length = dues.length ∧ Bald (frD dues) (ttD dues) (smD dues) n dues.length (el ((mvL (l.map stpOf) d x ks).set a (el x a + d))) ∧ (∀ j,j ≠ a→el ((mvL (l.map stpOf) d x ks).set a (el x a + d)) j = el (mvL (l.map stpOf) d x ks) j) ∧ (∀ j,(∀ b,¬ Q j b)→el (mvL (l.map stpOf) d x ks) j = el x j) ∧ el ((mvL (l.map stpOf) d x ks).set a (el x a + d)) a = el x a + d:=by
 have hk' : ∀ k ∈ ks,k < (l.map stpOf).length ∧ μ (el (l.map stpOf) k).src < μ (el (l.map stpOf) k).dst:=fun k h=>⟨by rw [List.length_map]; exact (hk k h).1,(hk k h).2⟩
 have hkl:∀ k ∈ ks,k < l.length:=fun k h=>(hk k h).1
 obtain ⟨_,hnd⟩:=w.dues S (μ:=μ) hk'
 have hlen:=h.len
 have hdueLt:∀ k ∈ ks,(el (l.map stpOf) k).due.toNat < dues.length:=by
  intro k hks
  rw [el_map' stpOf l k (hkl k hks)]
  obtain ⟨i,b,hi,e,_⟩:=hG _ (el_mem _ _ (hkl k hks))
  rw [e]
  show (i:Int).toNat < _
  omega
 have hksl:ks.length ≤ 100:=by
  have:=nodF_le dues.length _ hnd (fun z hz=>by
   obtain ⟨k,hks,rfl⟩:=List.mem_map.1 hz
   exact hdueLt k hks)
  rw [List.length_map] at this
  omega
 have hr:InR (smD dues) dues.length (el x):=fun j hj=>⟨hB.lo j hj,hB.hi j hj⟩
 have hG' : OfG dues x l:=fun g hg=>by obtain ⟨i,b,h1,h2,_⟩:=hG g hg; exact ⟨i,b,h1,h2⟩
 obtain ⟨d,e1,d1,d2,d3⟩:=slack_m h hl hr hG' (w:=ks.reverse.map fun (k:Nat)=>(k:Int)) (fun j hj=>by obtain ⟨k,h1,h2,_⟩:=way_ints hkl j hj; exact ⟨k,h1,h2⟩) (by rw [List.length_map,List.length_reverse]; omega) (smD dues a - el x a)
 have hpos:0 < d:=d3 (by omega) fun j hj=>by
  obtain ⟨k,h1,h2,_⟩:=way_ints hkl j hj
  rw [h1,Int.toNat_natCast]
  obtain ⟨i,b,hi,e,hm⟩:=hG _ (el_mem _ _ h2)
  rw [e]; exact hm
 have hmost:∀ k ∈ ks,d ≤ (el (l.map stpOf) k).most:=by
  intro k hks
  obtain ⟨j,hj,e⟩:=ints_way hks
  have:=d2 j hj
  rw [e,Int.toNat_natCast] at this
  rw [el_map' stpOf l k (hkl k hks)]
  exact this
 have hda:=h.each a ha
 have hxa0:=hB.lo a ha
 have hd40:d ≤ 1099511627776:=by unfold smD at d1; omega
 have e2:=turn_m h hl hr hG' (ks:=ks.reverse) (fun k h=>hkl k (List.mem_reverse.1 h)) (by rw [List.length_reverse]; omega) (by omega:0 ≤ d) hd40
 rw [revMv d hnd (fun k hks=>by rw [hl]; exact hdueLt k hks)] at e2
 exact ⟨d,hpos,e1,e2,hd40,cyc_move hl ha S hQ hB (μ:=μ) w hk' (by omega) hmost (by omega)⟩
theorem sliceL_take (t:Nat):sliceL dues 0 ((t + 1:Nat):Int) = dues.take (t + 1):=by
 unfold sliceL
 rw [Int.toNat_natCast]
 rfl
theorem grow_step (h:OkD n dues) {t:Nat} (ht:t < dues.length) (hl:x.length = dues.length) (hB:Bald (frD dues) (ttD dues) (smD dues) n dues.length (el x)) {p:Nat→Int} (hp:Cert (frD dues) (ttD dues) (smD dues) t (el x) p) :
  (∃ x',mallongeref42_grow_l2_s n dues t x = some (.inl x') ∧ x'.length = dues.length ∧ Bald (frD dues) (ttD dues) (smD dues) n dues.length (el x') ∧ (∀ j,t < j→el x' j = el x j) ∧ (∃ p',Cert (frD dues) (ttD dues) (smD dues) t (el x') p' ∧ p' (frD dues t) ≤ p' (ttD dues t)) ∧ (smD dues t - el x' t).toNat < (smD dues t - el x t).toNat) ∨
  (mallongeref42_grow_l2_s n dues t x = some (.inr (.inl x)) ∧ smD dues t ≤ el x t) ∨
  (mallongeref42_grow_l2_s n dues t x = some (.inr (.inr x)) ∧ ∃ p',Cert (frD dues) (ttD dues) (smD dues) t (el x) p' ∧ p' (ttD dues t) ≤ p' (frD dues t) - 1):=by
 have hlen:=h.len
 have hnn:=h.nn
 have hd:=h.each t ht
 have eX:at? x (t:Int) = some (el x t):=atI_el x t (by omega)
 have eD:=atI_el dues t ht
 by_cases c:el x t < smD dues t
 ·have c' : decide (el x t < (el dues t).Sum) = true:=decide_eq_true c
  have wt:IntKind.wrap .i64 ((t:Int) + 1) = ((t + 1:Nat):Int):=wrap_succ (by omega)
  have hso:sliceOk dues.length 0 ((t + 1:Nat):Int):=by unfold sliceOk; omega
  have htk:(dues.take (t + 1)).length = t + 1:=by rw [List.length_take]; omega
  have eS:mallongeref42_Steps (dues.take (t + 1)) x 0 = some ((stepsR dues (el x) 0 (t + 1)).map toR):=by
   have:=rSteps_m (dues:=dues) (x:=x) (dues':=dues.take (t + 1)) (t:=t + 1) (f:=0) htk (by omega) (fun i hi=>by simp [el,show i < t + 1 from hi]) (by omega) (Nat.zero_le _)
   exact this
  have eO:=others_m (n:=n) (x:=x) hlen ht
  have S0:=stepsR_part (x:=x) h (k:=t) (by omega)
  have S:=stepsR_of (x:=x) h (f:=0) (k:=t) (by omega)
  have hok:=stepsR_ok (x:=x) h (f:=0) (k:=t) (by omega)
  have hll:=stepsR_len (dues:=dues) (x:=x) 0 t
  have hG:∀ g ∈ stepsR dues (el x) 0 t,∃ i b,i < dues.length ∧ g = stpG dues (el x) i b ∧ 0 < (stpG dues (el x) i b).most:=fun g hg=>by
   obtain ⟨i,b,h1,h2,h3,h4⟩:=mem_stepsR.1 hg
   exact ⟨i,b,by omega,h3,h4⟩
  have hpot:=(cert_pot S0 p).1 hp
  generalize stepsR dues (el x) 0 t = l at *
  obtain ⟨cw,w,q,F,μ,last,eW,W⟩:=way_m (n:=n) hnn (fun g hg=>⟨(hok g hg).1,(hok g hg).2.1⟩) (by omega) hpot (h.tt t ht) (h.fr t ht)
  have eT:(el dues t).To = ((ttD dues t:Nat):Int):=by unfold ttD; omega
  have eF:(el dues t).From = ((frD dues t:Nat):Int):=by unfold frD; omega
  have hq0:0 ≤ q (ttD dues t):=by
   have hF:=W.tree.root _ (h.tt t ht) rfl
   obtain ⟨k,wk⟩:=W.wk _ (h.tt t ht) hF
   have:=wk.pot hpot
   omega
  have hq1:q (ttD dues t) ≤ 0:=(W.le 0 0 _ .zero).2
  have hFt:=W.tree.root _ (h.tt t ht) rfl
  have hcw:F (frD dues t) = true→-1000000 ≤ cw ∧ cw ≤ 1000000:=fun hF=>by rw [(W.yes hF).1]; exact W.bound _ (h.fr t ht) hF
  have wc:IntKind.wrap .i64 (cw - 1) = cw - 1:=by
   cases hF:F (frD dues t) with
   | true=>have:=hcw hF; exact wrap_id (by omega) (by omega)
   | false=>rw [W.no hF]; exact wrap_id (by omega) (by omega)
  by_cases c1:cw - 1 ≥ 0
  ·refine .inr (.inr ⟨?_,?_⟩)
   ·unfold mallongeref42_grow_l2_s
    rw [eX,Option.bind_some,eD,Option.bind_some,if_pos c',wt,if_pos hso,sliceL_take,eS,Option.bind_some,eO,Option.bind_some,Option.bind_some,Option.bind_some,eT,eF,eW,Option.bind_some,wc,if_pos (decide_eq_true c1)]
   ·obtain ⟨p',h1,h2,h3⟩:=new_pot2 S0 (fun i hi=>h.fr i (by omega)) (fun i hi=>h.tt i (by omega)) hp W.tree 1
    refine ⟨p',h1,?_⟩
    rw [h2 _ hFt]
    cases hF:F (frD dues t) with
    | true=>rw [h2 _ hF,← (W.yes hF).1]; omega
    | false=>have:=h3 _ (h.fr t ht) hF; omega
  ·have hF:F (frD dues t) = true:=by
    cases hF:F (frD dues t) with
    | true=>rfl
    | false=>rw [W.no hF] at c1; omega
   obtain ⟨ecw,ks,pth,ew,hks⟩:=W.yes hF
   subst ew
   obtain ⟨d,hd0,e1,e2,hd40,hnd,m1,m2,m3,m4,m5,m6⟩:=slide_m h hl hB S hG ht (fun i b hQ=>by omega) c pth (μ:=μ) fun k hk=>⟨(hks k hk).1,(hks k hk).2.2.2.1⟩
   obtain ⟨p',h1,h2,h3⟩:=new_pot2 S0 (fun i hi=>h.fr i (by omega)) (fun i hi=>h.tt i (by omega)) hp W.tree 1
   have hcert:Cert (frD dues) (ttD dues) (smD dues) t (el ((mvL (l.map stpOf) d x ks).set t (el x t + d))) p':=by
    have:=certMv S hl (fun k hk=>by rw [List.length_map]; exact (hks k hk).1) hnd d (t:=t) (by omega) h1 fun k hk i b _ e=>by
     obtain ⟨_,q1,q2,_,q3⟩:=hks k hk
     rw [← h2 _ q1,← h2 _ q2,e,stp_src,stp_dst] at q3
     exact q3
    intro i hi
    rw [m4 i (by omega)]
    exact this i hi
   refine .inl ⟨_,?_,m2,m3,fun j hj=>?_,⟨p',hcert,?_⟩,?_⟩
   ·unfold mallongeref42_grow_l2_s
    have hml:(mvL (l.map stpOf) d x ks).length = dues.length:=by rw [mvL_len,hl]
    have c5:0 ≤ (t:Int) ∧ (t:Int).toNat < (mvL (l.map stpOf) d x ks).length:=⟨by omega,by rw [Int.toNat_natCast]; omega⟩
    have e5:(mvL (l.map stpOf) d x ks)[(t:Int).toNat]? = some (el x t):=by rw [Int.toNat_natCast,atE _ t (by omega),m1]
    have hx0:=hB.lo t ht
    have c1' : ¬ decide (cw - 1 ≥ 0) = true:=by rw [decide_eq_true_eq]; exact c1
    have hsm:smD dues t = (el dues t).Sum:=rfl
    have wS:IntKind.wrap .i64 ((el dues t).Sum - el x t) = smD dues t - el x t:=wrap_id (by omega) (by omega)
    have w5:IntKind.wrap .i64 (el x t + d) = el x t + d:=by unfold smD at c; exact wrap_id (by omega) (by omega)
    rw [eX,Option.bind_some,eD,Option.bind_some,if_pos c',wt,if_pos hso,sliceL_take,eS,Option.bind_some,eO,Option.bind_some,Option.bind_some,Option.bind_some,eT,eF,eW,Option.bind_some,wc,if_neg c1',Option.bind_some,Option.bind_some,wS]
    dsimp only
    rw [e1,Option.bind_some,e2,Option.bind_some,if_pos c5,e5,Option.bind_some,if_pos c5,Option.bind_some,w5,Int.toNat_natCast]
   ·rw [m4 j (by omega),m5 j fun b hQ=>by omega]
   ·rw [h2 _ hFt,h2 _ hF,← ecw]; omega
   ·rw [m6]; omega
 ·refine .inr (.inl ⟨?_,by omega⟩)
  unfold mallongeref42_grow_l2_s
  have c' : ¬ decide (el x t < (el dues t).Sum) = true:=by rw [decide_eq_true_eq]; exact c
  rw [eX,Option.bind_some,eD,Option.bind_some,if_neg c']
theorem grow_m (h:OkD n dues) {t:Nat} (ht:t < dues.length) (hl:x.length = dues.length) (hB:Bald (frD dues) (ttD dues) (smD dues) n dues.length (el x)) {p:Nat→Int} (hp:Cert (frD dues) (ttD dues) (smD dues) t (el x) p) (hx0:el x t = 0) :
  ∃ x',mallongeref42_grow n dues x t = some x' ∧ x'.length = dues.length ∧ Bald (frD dues) (ttD dues) (smD dues) n dues.length (el x') ∧ (∀ j,t < j→el x' j = el x j) ∧ ∃ p',Cert (frD dues) (ttD dues) (smD dues) (t + 1) (el x') p':=by
 unfold mallongeref42_grow mallongeref42_grow_l2
 obtain ⟨z,h1,x',h2,h3⟩:=iter_meas (step:=fun (w:List Int)=>mallongeref42_grow_l2_s n dues t w) (fun w=>w.length = dues.length ∧ Bald (frD dues) (ttD dues) (smD dues) n dues.length (el w) ∧ (∃ p',Cert (frD dues) (ttD dues) (smD dues) t (el w) p') ∧ (∀ j,t < j→el w j = el x j) ∧ (el w t = 0 ∨ ∃ p',Cert (frD dues) (ttD dues) (smD dues) t (el w) p' ∧ p' (frD dues t) ≤ p' (ttD dues t)))
  (fun w=>(smD dues t - el w t).toNat) (fun z=>∃ x',(z = .inl x' ∨ z = .inr x') ∧ x'.length = dues.length ∧ Bald (frD dues) (ttD dues) (smD dues) n dues.length (el x') ∧ (∀ j,t < j→el x' j = el x j) ∧ ∃ p',Cert (frD dues) (ttD dues) (smD dues) (t + 1) (el x') p') (fun w ⟨i1,i2,⟨p1,i3⟩,i4,i5⟩=>by
   rcases grow_step h ht i1 i2 i3 with ⟨x',s1,s2,s3,s4,s5,s6⟩ | ⟨s1,s2⟩ | ⟨s1,p2,s2,s3⟩
   ·exact .inl ⟨x',s1,⟨s2,s3,(by obtain ⟨p',s5,_⟩:=s5; exact ⟨p',s5⟩),fun j hj=>by rw [s4 j hj,i4 j hj],.inr s5⟩,s6⟩
   ·refine .inr ⟨_,s1,w,.inl rfl,i1,i2,i4,?_⟩
    have hd:=h.each t ht
    rcases i5 with i5 | ⟨p',i5,i6⟩
    ·unfold smD at s2; omega
    ·exact ⟨p',i5.succ (fun c=>by omega) fun _=>by omega⟩
   ·refine .inr ⟨_,s1,w,.inr rfl,i1,i2,i4,?_⟩
    rcases i5 with i5 | ⟨p',i5,i6⟩
    ·exact ⟨p2,s2.succ (fun _=>s3) fun c=>by omega⟩
    ·exact s2.join i5 s3 i6) x ⟨hl,hB,⟨p,hp⟩,fun _ _=>rfl,.inl hx0⟩
 refine ⟨x',?_,h3⟩
 rw [h1,Option.bind_some]
 rcases h2 with rfl | rfl <;> rfl
end
end Go.Proofs.Ytgipgbhlibafhaa
