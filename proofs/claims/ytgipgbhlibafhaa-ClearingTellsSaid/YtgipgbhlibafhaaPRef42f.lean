/- Law 42, the reference: raising due by due, potentials, and what Clear answers. -/
import Derived.Test.YtgipgbhlibafhaaPRef42e
set_option linter.unusedVariables false
set_option linter.unusedSimpArgs false
namespace Go.Proofs.Ytgipgbhlibafhaa
open Go.RowKit Vm
section
variable {n:Nat} {dues:List GDue} {x:List Int}
theorem StepsOf.pot {fr tt:Nat→Nat} {s:Nat→Int} {m:Nat} {x:Nat→Int} {Q:Nat→Bool→Prop} {l:List Stp} (S:StepsOf fr tt s m x Q ccT l) {p:Nat→Int} (hc:Cert fr tt s m x p):Pot Stp.src Stp.dst Stp.cost l p:=by
 intro k hk
 obtain ⟨i,b,hi,_,hm,e⟩:=S.sound k hk
 have:=hc i hi
 rw [e,stp_src,stp_dst]
 cases b
 ·have:=this.1 (by simp [stp] at hm; omega)
  simp [stp,ccT]
  omega
 ·have:=this.2 (by simpa [stp] using hm)
  simp [stp,ccT]
  omega
theorem rraise_step (h:OkD n dues) {i:Nat} (hi:i < dues.length) (hl:x.length = dues.length) (hB:Bald (frD dues) (ttD dues) (smD dues) n dues.length (el x)) {p:Nat→Int} (hc:Cert (frD dues) (ttD dues) (smD dues) dues.length (el x) p) :
  (∃ x',mallongeref42_raise_l1_s n dues i x = some (.inl x') ∧ x'.length = dues.length ∧ Bald (frD dues) (ttD dues) (smD dues) n dues.length (el x') ∧ Cert (frD dues) (ttD dues) (smD dues) dues.length (el x') p ∧ (∀ j,j < i→el x' j = el x j) ∧ (smD dues i - el x' i).toNat < (smD dues i - el x i).toNat) ∨
  ((mallongeref42_raise_l1_s n dues i x = some (.inr (.inl x)) ∨ mallongeref42_raise_l1_s n dues i x = some (.inr (.inr x))) ∧ LexAt (frD dues) (ttD dues) (smD dues) n dues.length (el x) i):=by
 have hlen:=h.len
 have hnn:=h.nn
 have hd:=h.each i hi
 have eX:at? x (i:Int) = some (el x i):=atI_el x i (by omega)
 have eD:=atI_el dues i hi
 by_cases c:el x i < smD dues i
 ·have c' : decide (el x i < (el dues i).Sum) = true:=decide_eq_true c
  have wt:IntKind.wrap .i64 ((i:Int) + 1) = ((i + 1:Nat):Int):=wrap_succ (by omega)
  have eS:=rSteps_m (dues:=dues) (x:=x) (dues':=dues) (t:=dues.length) (f:=i + 1) rfl hlen (fun _ _=>rfl) (by omega) (by omega)
  have S:=stepsR_of (x:=x) h (f:=i + 1) (k:=dues.length - (i + 1)) (by omega)
  have hok:=stepsR_ok (x:=x) h (f:=i + 1) (k:=dues.length - (i + 1)) (by omega)
  have hll:=stepsR_len (dues:=dues) (x:=x) (i + 1) (dues.length - (i + 1))
  have hG:∀ g ∈ stepsR dues (el x) (i + 1) (dues.length - (i + 1)),∃ i b,i < dues.length ∧ g = stpG dues (el x) i b ∧ 0 < (stpG dues (el x) i b).most:=fun g hg=>by
   obtain ⟨i',b,h1,h2,h3,h4⟩:=mem_stepsR.1 hg
   exact ⟨i',b,by omega,h3,h4⟩
  have hpot:=S.pot hc
  generalize stepsR dues (el x) (i + 1) (dues.length - (i + 1)) = l at *
  obtain ⟨cw,w,q,F,μ,last,eW,W⟩:=way_m (n:=n) hnn (fun g hg=>⟨(hok g hg).1,(hok g hg).2.1⟩) (by omega) hpot (h.tt i hi) (h.fr i hi)
  have eT:(el dues i).To = ((ttD dues i:Nat):Int):=by unfold ttD; omega
  have eF:(el dues i).From = ((frD dues i:Nat):Int):=by unfold frD; omega
  have hFt:=W.tree.root _ (h.tt i hi) rfl
  have hq0:0 ≤ q (ttD dues i):=by
   obtain ⟨k,wk⟩:=W.wk _ (h.tt i hi) hFt
   have:=wk.pot hpot
   omega
  have hq1:q (ttD dues i) ≤ 0:=(W.le 0 0 _ .zero).2
  by_cases c1:cw > 1
  ·refine .inr ⟨.inr ?_,?_⟩
   ·unfold mallongeref42_raise_l1_s
    rw [eX,Option.bind_some,eD,Option.bind_some,if_pos c',wt,eS,Option.bind_some,Option.bind_some,Option.bind_some,eT,eF,eW,Option.bind_some,if_pos (decide_eq_true c1)]
   ·by_cases hp:p (ttD dues i) = p (frD dues i) - 1
    ·have hdec:∀ v,Decidable (∃ k c',WkC Stp.src Stp.dst Stp.cost (l.map stpOf) (ttD dues i) k c' v ∧ p v = p (ttD dues i) + c'):=fun v=>Classical.propDecidable _
     refine raise_endQ (p:=p) (F:=fun v=>@decide _ (hdec v)) hi h.fr h.tt hB hc (fun j b hj hT hm hF=>?_) (@decide_eq_true _ (hdec _) ⟨0,0,.zero,by omega⟩) (@decide_eq_false _ (hdec _) ?_)
     ·obtain ⟨k,c',wk,ec⟩:=@of_decide_eq_true _ (hdec _) hF
      obtain ⟨k2,hk2,e⟩:=S.all j b hj ⟨by have:=hT.1; omega,by omega⟩ hm
      refine @decide_eq_true _ (hdec _) ⟨k + 1,c' + ccT b,?_,by have:=hT.2; omega⟩
      have h1:(el (l.map stpOf) k2).src = if b = true then ttD dues j else frD dues j:=by rw [e,stp_src]
      have h2:(el (l.map stpOf) k2).dst = if b = true then frD dues j else ttD dues j:=by rw [e,stp_dst]
      have h3:(el (l.map stpOf) k2).cost = ccT b:=by rw [e]; rfl
      rw [← h1] at wk
      rw [← h2,← h3]
      exact .step k2 hk2 wk
     ·rintro ⟨k,c',wk,ec⟩
      have h1:=W.le k c' _ wk
      have h2:=(W.yes h1.1).1
      omega
    ·exact raise_slack hi h.fr h.tt hB hc hp
  ·have hF:F (frD dues i) = true:=by
    cases hF:F (frD dues i) with
    | true=>rfl
    | false=>rw [W.no hF] at c1; omega
   obtain ⟨ecw,ks,pth,ew,hks⟩:=W.yes hF
   subst ew
   obtain ⟨d,hd0,e1,e2,hd40,hnd,m1,m2,m3,m4,m5,m6⟩:=slide_m h hl hB S hG hi (fun j b hQ=>by omega) c pth (μ:=μ) fun k hk=>⟨(hks k hk).1,(hks k hk).2.2.2.1⟩
   have hlow:=(hc i hi).1 c
   have hal:=pth.along hpot fun k hk=>⟨by rw [List.length_map]; exact (hks k hk).1,(hks k hk).2.2.2.2⟩
   have hcert:Cert (frD dues) (ttD dues) (smD dues) dues.length (el ((mvL (l.map stpOf) d x ks).set i (el x i + d))) p:=by
    have:=certMv S hl (fun k hk=>by rw [List.length_map]; exact (hks k hk).1) hnd d (t:=dues.length) (Nat.le_refl _) hc fun k hk j b hQ e=>by
     obtain ⟨a1,a2⟩:=hal.2 k hk
     have a3:=(hks k hk).2.2.2.2
     have a4:=hpot k (by rw [List.length_map]; exact (hks k hk).1)
     rw [e] at a1 a2 a3 a4
     rw [stp_src] at a1 a3 a4
     rw [stp_dst] at a2 a3 a4
     have e3:(stp (frD dues) (ttD dues) (smD dues) (el x) ccT j b).cost = ccT b:=rfl
     rw [e3] at a3 a4
     omega
    intro j hj
    by_cases e:j = i
    ·subst e
     rw [m6]
     have a0:=hal.1
     refine ⟨fun _=>by omega,fun _=>by omega⟩
    ·rw [m4 j e]
     exact this j hj
   refine .inl ⟨_,?_,m2,m3,hcert,fun j hj=>?_,?_⟩
   ·unfold mallongeref42_raise_l1_s
    have hml:(mvL (l.map stpOf) d x ks).length = dues.length:=by rw [mvL_len,hl]
    have c5:0 ≤ (i:Int) ∧ (i:Int).toNat < (mvL (l.map stpOf) d x ks).length:=⟨by omega,by rw [Int.toNat_natCast]; omega⟩
    have e5:(mvL (l.map stpOf) d x ks)[(i:Int).toNat]? = some (el x i):=by rw [Int.toNat_natCast,atE _ i (by omega),m1]
    have hx0:=hB.lo i hi
    have c1' : ¬ decide (cw > 1) = true:=by rw [decide_eq_true_eq]; exact c1
    have hsm:smD dues i = (el dues i).Sum:=rfl
    have wS:IntKind.wrap .i64 ((el dues i).Sum - el x i) = smD dues i - el x i:=wrap_id (by omega) (by omega)
    have w5:IntKind.wrap .i64 (el x i + d) = el x i + d:=wrap_id (by omega) (by omega)
    rw [eX,Option.bind_some,eD,Option.bind_some,if_pos c',wt,eS,Option.bind_some,Option.bind_some,Option.bind_some,eT,eF,eW,Option.bind_some,if_neg c1',Option.bind_some,Option.bind_some,wS]
    dsimp only
    rw [e1,Option.bind_some,e2,Option.bind_some,if_pos c5,e5,Option.bind_some,if_pos c5,Option.bind_some,w5,Int.toNat_natCast]
   ·rw [m4 j (by omega),m5 j fun b hQ=>by omega]
   ·rw [m6]; omega
 ·refine .inr ⟨.inl ?_,raise_full hi (by omega)⟩
  unfold mallongeref42_raise_l1_s
  have c' : ¬ decide (el x i < (el dues i).Sum) = true:=by rw [decide_eq_true_eq]; exact c
  rw [eX,Option.bind_some,eD,Option.bind_some,if_neg c']
theorem rraise_m (h:OkD n dues) {i:Nat} (hi:i < dues.length) (hl:x.length = dues.length) (hB:Bald (frD dues) (ttD dues) (smD dues) n dues.length (el x)) {p:Nat→Int} (hc:Cert (frD dues) (ttD dues) (smD dues) dues.length (el x) p) :
  ∃ x',mallongeref42_raise n dues x i = some x' ∧ x'.length = dues.length ∧ Bald (frD dues) (ttD dues) (smD dues) n dues.length (el x') ∧ Cert (frD dues) (ttD dues) (smD dues) dues.length (el x') p ∧ (∀ j,j < i→el x' j = el x j) ∧ LexAt (frD dues) (ttD dues) (smD dues) n dues.length (el x') i:=by
 unfold mallongeref42_raise mallongeref42_raise_l1
 obtain ⟨z,h1,h2⟩:=iter_meas (step:=fun (w:List Int)=>mallongeref42_raise_l1_s n dues i w) (fun w=>w.length = dues.length ∧ Bald (frD dues) (ttD dues) (smD dues) n dues.length (el w) ∧ Cert (frD dues) (ttD dues) (smD dues) dues.length (el w) p ∧ ∀ j,j < i→el w j = el x j) (fun w=>(smD dues i - el w i).toNat)
  (fun z=>∃ x' : List Int,(z = .inl x' ∨ z = .inr x') ∧ x'.length = dues.length ∧ Bald (frD dues) (ttD dues) (smD dues) n dues.length (el x') ∧ Cert (frD dues) (ttD dues) (smD dues) dues.length (el x') p ∧ (∀ j,j < i→el x' j = el x j) ∧ LexAt (frD dues) (ttD dues) (smD dues) n dues.length (el x') i) (fun w ⟨i1,i2,i3,i4⟩=>by
   rcases rraise_step h hi i1 i2 i3 with ⟨x',s1,s2,s3,s4,s5,s6⟩ | ⟨s1 | s1,s2⟩
   ·exact .inl ⟨x',s1,⟨s2,s3,s4,fun j hj=>by rw [s5 j hj,i4 j hj]⟩,s6⟩
   ·exact .inr ⟨_,s1,w,.inl rfl,i1,i2,i3,i4,s2⟩
   ·exact .inr ⟨_,s1,w,.inr rfl,i1,i2,i3,i4,s2⟩) x ⟨hl,hB,hc,fun _ _=>rfl⟩
 obtain ⟨x',h3,h4⟩:=h2
 refine ⟨x',?_,h4⟩
 rw [h1,Option.bind_some]
 rcases h3 with rfl | rfl <;> rfl
theorem rpots_m (h:OkD n dues) (hl:x.length = dues.length) {p:Nat→Int} (hc:Cert (frD dues) (ttD dues) (smD dues) dues.length (el x) p) :
  ∃ q,mallongeref42_Potentials n dues x = some q ∧ q.length = n ∧ LeastX n ((stepsG dues (el x) dues.length).map stpOf) (el q):=by
 have hlen:=h.len
 have hnn:=h.nn
 have eS:=rSteps_m (dues:=dues) (x:=x) (dues':=dues) (t:=dues.length) (f:=0) rfl hlen (fun _ _=>rfl) (by omega) (Nat.zero_le _)
 have S:=steps_of h (el x)
 have hok:=stepsR_ok (x:=x) h (f:=0) (k:=dues.length) (by omega)
 have hll:=stepsG_len dues (el x) dues.length
 have hs:=S.in_ h.fr h.tt
 have hpot:=S.pot hc
 rw [Nat.sub_zero,stepsR_zero,show ((0:Nat):Int) = 0 from rfl] at eS
 rw [stepsR_zero] at hok
 generalize stepsG dues (el x) dues.length = l at *
 have hway:=fun u v (hu:u < n) (hv:v < n)=>way_m (n:=n) (l:=l) hnn (fun g hg=>⟨(hok g hg).1,(hok g hg).2.1⟩) (by omega) hpot (u:=u) (v:=v) hu hv
 -- one merchant
 have hone:∀ v,v < n→∀ a:List Int,a.length = n→el a v = 0→∃ a',mallongeref42_Potentials_l1 n v (l.map toR) 0 a = some a' ∧ a'.length = n ∧ (∀ j,j ≠ v→el a' j = el a j) ∧ el a' v ≤ 0 ∧ (∃ u k,u < n ∧ WkC Stp.src Stp.dst Stp.cost (l.map stpOf) u k (el a' v) v) ∧ ∀ u k c,u < n→WkC Stp.src Stp.dst Stp.cost (l.map stpOf) u k c v→el a' v ≤ c:=by
  intro v hv a ha ha0
  unfold mallongeref42_Potentials_l1
  refine iter_for (step:=fun (w:Int × List Int)=>mallongeref42_Potentials_l1_s n v (l.map toR) w.1 w.2) (fun k (b:List Int)=>((k:Int),b)) n (fun k a'=>a'.length = n ∧ (∀ j,j ≠ v→el a' j = el a j) ∧ el a' v ≤ 0 ∧ (∃ u k,u < n ∧ WkC Stp.src Stp.dst Stp.cost (l.map stpOf) u k (el a' v) v) ∧ ∀ u k' c,u < k→WkC Stp.src Stp.dst Stp.cost (l.map stpOf) u k' c v→el a' v ≤ c) _ ?_ ?_ _ ⟨ha,fun _ _=>rfl,by omega,⟨v,0,hv,by rw [ha0]; exact .zero⟩,fun u _ _ hu=>absurd hu (Nat.not_lt_zero _)⟩
  ·rintro u b hu ⟨i1,i2,i3,i4,i5⟩
   obtain ⟨cw,w,q,F,μ,last,eW,W⟩:=hway u v hu hv
   refine .inl ⟨b.set v (if cw < el b v then cw else el b v),?_,by rw [List.length_set]; exact i1,fun j hj=>?_,?_,?_,?_⟩
   ·show mallongeref42_Potentials_l1_s n v (l.map toR) u b = _
    unfold mallongeref42_Potentials_l1_s
    have c0:decide ((u:Int) < (n:Int)) = true:=by simpa using hu
    have cv:0 ≤ (v:Int) ∧ (v:Int).toNat < b.length:=⟨by omega,by rw [Int.toNat_natCast]; omega⟩
    have ev:b[(v:Int).toNat]? = some (el b v):=by rw [Int.toNat_natCast]; exact atE b v (by omega)
    have w3:IntKind.wrap .i64 ((u:Int) + 1) = ((u + 1:Nat):Int):=wrap_succ (by omega)
    simp only [if_pos c0,eW,Option.bind_some,if_pos cv,ev,w3]
    rw [Int.toNat_natCast]
   ·rw [el_set_any,if_neg fun q=>hj q.1]; exact i2 j hj
   ·rw [el_set_any,if_pos ⟨rfl,by omega⟩]; split <;> omega
   ·rw [el_set_any,if_pos ⟨rfl,by omega⟩]
    by_cases c:cw < el b v
    ·rw [if_pos c]
     cases hF:F v with
     | true =>
      obtain ⟨k,wk⟩:=W.wk v hv hF
      rw [(W.yes hF).1]
      exact ⟨u,k,hu,wk⟩
     | false=>rw [W.no hF] at c; omega
    ·rw [if_neg c]; exact i4
   ·intro u' k' c' hu' wk
    rw [el_set_any,if_pos ⟨rfl,by omega⟩]
    by_cases e:u' = u
    ·subst e
     obtain ⟨hF,hle⟩:=W.le k' c' v wk
     have:=(W.yes hF).1
     split <;> omega
    ·have:=i5 u' k' c' (by omega) wk
     split <;> omega
  ·rintro b ⟨i1,i2,i3,i4,i5⟩
   refine ⟨b,?_,i1,i2,i3,i4,i5⟩
   show mallongeref42_Potentials_l1_s n v (l.map toR) n b = _
   unfold mallongeref42_Potentials_l1_s
   rw [if_neg (by simp)]
 have hall:∃ q,mallongeref42_Potentials_l2 n (l.map toR) 0 (List.replicate n (0:Int)) = some q ∧ q.length = n ∧ ∀ v,v < n→el q v ≤ 0 ∧ (∃ u k,u < n ∧ WkC Stp.src Stp.dst Stp.cost (l.map stpOf) u k (el q v) v) ∧ ∀ u k c,u < n→WkC Stp.src Stp.dst Stp.cost (l.map stpOf) u k c v→el q v ≤ c:=by
  unfold mallongeref42_Potentials_l2
  refine iter_for (step:=fun (w:Int × List Int)=>mallongeref42_Potentials_l2_s n (l.map toR) w.1 w.2) (fun k (b:List Int)=>((k:Int),b)) n (fun k q=>(q.length = n ∧ ∀ v,k ≤ v→v < n→el q v = 0) ∧ ∀ v,v < k→el q v ≤ 0 ∧ (∃ u k,u < n ∧ WkC Stp.src Stp.dst Stp.cost (l.map stpOf) u k (el q v) v) ∧ ∀ u k c,u < n→WkC Stp.src Stp.dst Stp.cost (l.map stpOf) u k c v→el q v ≤ c) _ ?_ ?_ _ ⟨⟨List.length_replicate,fun v _ hv=>el_replicate_any _ _ _ hv⟩,fun v hv=>absurd hv (Nat.not_lt_zero _)⟩
  ·rintro v q hv ⟨⟨i1,i2⟩,i3⟩
   obtain ⟨q',e,j1,j2,j3⟩:=hone v hv q i1 (i2 v (Nat.le_refl _) hv)
   refine .inl ⟨q',?_,⟨j1,fun v' h1 h2=>?_⟩,fun v' h1=>?_⟩
   ·show mallongeref42_Potentials_l2_s n (l.map toR) v q = _
    unfold mallongeref42_Potentials_l2_s
    have c0:decide ((v:Int) < (n:Int)) = true:=by simpa using hv
    rw [if_pos c0,e,Option.bind_some,wrap_succ (by omega)]
   ·rw [j2 v' (by omega)]; exact i2 v' (by omega) h2
   ·by_cases e' : v' = v
    ·subst e'; exact j3
    ·rw [j2 v' e']; exact i3 v' (by omega)
  ·rintro q ⟨⟨i1,_⟩,i3⟩
   refine ⟨q,?_,i1,i3⟩
   show mallongeref42_Potentials_l2_s n (l.map toR) n q = _
   unfold mallongeref42_Potentials_l2_s
   rw [if_neg (by simp)]
 obtain ⟨q,e,hq1,hq2⟩:=hall
 refine ⟨q,?_,hq1,⟨fun v hv=>(hq2 v hv).1,fun v hv=>?_,fun i hi=>?_,fun v hv=>(hq2 v hv).2.1,fun u k c v hu w=>?_⟩⟩
 ·unfold mallongeref42_Potentials
  rw [eS,Option.bind_some,if_pos (by omega),Int.toNat_natCast,e]; rfl
 ·obtain ⟨u,k,hu,w⟩:=(hq2 v hv).2.1
  obtain ⟨j,c',hj,w',hc⟩:=w.short hpot hs hu
  have:=(hq2 v hv).2.2 u j c' hu w'
  have hge:=w'.cost_ge fun i hi'=>by
   rw [List.length_map] at hi'
   rw [el_map' stpOf l i hi']
   exact (hok (el l i) (el_mem _ _ hi')).1.2.2.1
  omega
 ·obtain ⟨u,k,hu,w⟩:=(hq2 _ (hs i hi).1).2.1
  exact (hq2 _ (hs i hi).2).2.2 u (k + 1) _ hu (.step i hi w)
 ·by_cases hv:v < n
  ·exact (hq2 v hv).2.2 u k c hu w
  ·exfalso
   cases w with
   | zero=>exact hv hu
   | step i hi _=>exact hv (hs i hi).2
theorem rbest_m (h:OkD n dues):∃ x q,mallongeref42_Clear n dues = some (x,q,0) ∧ BestX n dues x q:=by
 have hlen:=h.len
 have hnn:=h.nn
 unfold mallongeref42_Clear
 rw [rRight_m,rightD_iff.2 ⟨n,rfl,h⟩,Option.bind_some,if_neg (by decide),if_pos (by omega),Int.toNat_natCast]
 have h1:∃ x,mallongeref42_Clear_l1 n dues (List.replicate dues.length (0:Int)) 0 = some x ∧ x.length = dues.length ∧ Bald (frD dues) (ttD dues) (smD dues) n dues.length (el x) ∧ ∃ p,Cert (frD dues) (ttD dues) (smD dues) dues.length (el x) p:=by
  unfold mallongeref42_Clear_l1
  have hzero:∀ i,el (List.replicate dues.length (0:Int)) i = 0:=by
   intro i
   by_cases hi:i < dues.length
   ·exact el_replicate_any _ _ _ hi
   ·simp [el,hi]
  obtain ⟨x,e1,e2,e3,e4⟩:=iter_for (step:=fun (w:List Int × Int)=>mallongeref42_Clear_l1_s n dues w.1 w.2) (fun k (b:List Int)=>(b,(k:Int))) dues.length (fun k x=>(x.length = dues.length ∧ Bald (frD dues) (ttD dues) (smD dues) n dues.length (el x)) ∧ (∀ j,k ≤ j→el x j = 0) ∧ ∃ p,Cert (frD dues) (ttD dues) (smD dues) k (el x) p) (fun x=>x.length = dues.length ∧ Bald (frD dues) (ttD dues) (smD dues) n dues.length (el x) ∧ ∃ p,Cert (frD dues) (ttD dues) (smD dues) dues.length (el x) p) (by
    rintro t x ht ⟨⟨i1,i2⟩,i3,p,i4⟩
    obtain ⟨x',e,j1,j2,j3,j4⟩:=grow_m h ht i1 i2 i4 (i3 t (Nat.le_refl _))
    refine .inl ⟨x',?_,⟨j1,j2⟩,fun j hj=>by rw [j3 j (by omega)]; exact i3 j (by omega),j4⟩
    show mallongeref42_Clear_l1_s n dues x t = _
    unfold mallongeref42_Clear_l1_s
    have c0:decide ((t:Int) < (dues.length:Int)) = true:=by simpa using ht
    rw [if_pos c0,e,Option.bind_some,wrap_succ (by omega)]) (by
    rintro x ⟨⟨i1,i2⟩,_,i4⟩
    refine ⟨x,?_,i1,i2,i4⟩
    show mallongeref42_Clear_l1_s n dues x dues.length = _
    unfold mallongeref42_Clear_l1_s
    rw [if_neg (by simp)]) (List.replicate dues.length (0:Int)) ⟨⟨List.length_replicate,⟨fun i hi=>by rw [hzero]; omega,fun i hi=>by rw [hzero]; have:=h.each i hi; unfold smD; omega,fun v hv=>by
     unfold netF
     rw [sumN_congr (h:=fun _=>0) fun i _=>by simp [hzero],sumN_zero]⟩⟩,fun j _=>hzero j,fun _=>0,fun i hi=>absurd hi (Nat.not_lt_zero _)⟩
  exact ⟨x,e1,e2,e3,e4⟩
 obtain ⟨x0,a1,a2,a3,p,a4⟩:=h1
 have h2:∃ x,mallongeref42_Clear_l2 n dues x0 0 = some x ∧ x.length = dues.length ∧ Bald (frD dues) (ttD dues) (smD dues) n dues.length (el x) ∧ Cert (frD dues) (ttD dues) (smD dues) dues.length (el x) p ∧ ∀ i,i < dues.length→LexAt (frD dues) (ttD dues) (smD dues) n dues.length (el x) i:=by
  unfold mallongeref42_Clear_l2
  refine iter_for (step:=fun (w:List Int × Int)=>mallongeref42_Clear_l2_s n dues w.1 w.2) (fun k (b:List Int)=>(b,(k:Int))) dues.length (fun k a=>a.length = dues.length ∧ Bald (frD dues) (ttD dues) (smD dues) n dues.length (el a) ∧ Cert (frD dues) (ttD dues) (smD dues) dues.length (el a) p ∧ ∀ i,i < k→LexAt (frD dues) (ttD dues) (smD dues) n dues.length (el a) i) _ ?_ ?_ _ ⟨a2,a3,a4,fun j hj=>absurd hj (Nat.not_lt_zero _)⟩
  ·rintro k a hk ⟨i1,i2,i3,i4⟩
   obtain ⟨x',r1,r2,r3,r4,r5,r6⟩:=rraise_m h hk i1 i2 i3
   refine .inl ⟨x',?_,r2,r3,r4,fun j hj=>?_⟩
   ·show mallongeref42_Clear_l2_s n dues a k = _
    unfold mallongeref42_Clear_l2_s
    have c0:decide ((k:Int) < (dues.length:Int)) = true:=by simpa using hk
    rw [if_pos c0,r1,Option.bind_some,wrap_succ (by omega)]
   ·by_cases e:j = k
    ·subst e; exact r6
    ·exact (i4 j (by omega)).keep (fun j' hj'=>r5 j' (by omega)) (cert_best h.fr h.tt r3 i2 r4)
  ·rintro a hI
   refine ⟨a,?_,hI⟩
   show mallongeref42_Clear_l2_s n dues a dues.length = _
   unfold mallongeref42_Clear_l2_s
   rw [if_neg (by simp)]
 obtain ⟨x,d1,d2,d3,d4,d5⟩:=h2
 obtain ⟨q,f1,f2,f3⟩:=rpots_m h d2 d4
 rw [a1,Option.bind_some,d1,Option.bind_some,f1,Option.bind_some]
 exact ⟨x,q,rfl,d2,f2,d3,f3.cert h,d5,f3⟩
end
end Go.Proofs.Ytgipgbhlibafhaa
