/- Law 42, the reference: Way finds the cheapest way. -/
import Derived.Test.YtgipgbhlibafhaaPRef42b
set_option linter.unusedVariables false
set_option linter.unusedSimpArgs false
namespace Go.Proofs.Ytgipgbhlibafhaa
open Go.RowKit Vm
theorem inv_tree {n:Nat} {l:List Stp} (R:Nat→Bool) (hs:∀ i,i < l.length→(el l i).src < n ∧ (el l i).dst < n) {init best:List Lab} {last:List Int} (hn:init.length = n) (hi:∀ v,v < n→el init v = ⟨0,0,R v⟩) (h2:InvS lessL onwL Stp.src Stp.dst l init best last)
  (h3:∀ i,i < l.length→leS lessL (el best (el l i).dst) (onwL (el best (el l i).src) (el l i))):TreeS n l (fun v=>(el best v).fine = true) (fun v=>R v = true) (fun v=>(el best v).c) (fun v=>(el best v).k.toNat) last:=by
 subst hn
 refine ⟨?_,?_,?_⟩
 ·intro v hv hF
  rcases h2.last_ v hv with ⟨q1,q2⟩ | ⟨k,q1,q2,q3,q4⟩
  ·refine .inl ⟨q1,?_⟩
   rw [q2,hi v hv] at hF
   exact hF
  ·refine .inr ⟨k,q1,q2,q3,(hs k q1).1,?_⟩
   have q5:=h3 k q1
   rw [q3] at q5
   unfold leS at q4 q5
   rw [lessL_no] at q4 q5
   simp only [onwL] at q4 q5
   obtain ⟨j,hj⟩:=h2.wk _ (hs k q1).1
   obtain ⟨u,r1,r2,r3⟩:=wk_lab hj
   rw [hi u r1] at r2
   dsimp only at r2
   rcases q4 with q4 | ⟨q4,q6⟩
   ·rw [hF] at q4; cases q4
   ·rcases q5 with q5 | ⟨_,q7⟩
    ·rw [q4] at q5; cases q5
    ·exact ⟨q4,by omega,by omega⟩
 ·intro k hk hF
  have q5:=h3 k hk
  unfold leS at q5
  rw [lessL_no] at q5
  simp only [onwL] at q5
  rcases q5 with q5 | ⟨q6,q7⟩
  ·rw [hF] at q5; cases q5
  ·exact ⟨q6,by omega⟩
 ·intro v hv hR
  have q:=h2.le0 v hv
  unfold leS at q
  rw [lessL_no,hi v hv] at q
  dsimp only at q
  rcases q with q | q
  ·rw [hR] at q; cases q
  ·exact q.1
theorem ways_path {n:Nat} {l:List Stp} {best:List Lab} {last:List Int} {ways:List (List Int)} (hs:∀ i,i < l.length→(el l i).src < n ∧ (el l i).dst < n) (W:WInv n l best last ways) (h3:∀ i,i < l.length→leS lessL (el best (el l i).dst) (onwL (el best (el l i).src) (el l i)))
  (hinv:∀ v,v < n→(el best v).fine = true→∀ k:Nat,k < l.length→el last v = (k:Int)→leS lessL (onwL (el best (el l k).src) (el l k)) (el best v)) {v u:Nat} {ks:List Nat} (w:Pth l last v ks u):v < n→(∀ k ∈ ks,(el best (el l k).src).fine = true ∧ (el best (el l k).dst).fine = true)→el ways v = ks.reverse.map fun (k:Nat)=>(k:Int):=by
 induction w with
 | nil v hv =>
  intro hvn _
  rcases W.way v hvn with ⟨_,q⟩ | ⟨i,_,q,_⟩
  ·rw [q]; rfl
  ·rw [hv] at q; omega
 | @cons v k u ks hk hlv hd w ih =>
  intro hvn hf
  rcases W.way v hvn with ⟨q,_⟩ | ⟨i,q1,q2,q3,q4⟩
  ·rw [hlv] at q; omega
  ·obtain rfl:i = k:=by omega
   have hfv:=hf i (List.mem_cons_self ..)
   have hno:lessL (onwL (el best (el l i).src) (el l i)) (el best v) = false:=by
    have:=h3 i hk
    unfold leS at this
    rw [q3] at this
    -- labels are not less in either way; less is excluded because best v is not above
    have h4:=hfv.2
    rw [q3] at h4
    cases hl:lessL (onwL (el best (el l i).src) (el l i)) (el best v) with
    | false=>rfl
    | true=>rw [hl] at this; cases this
   rcases q4 with ⟨_,q5⟩ | q5
   ·rw [q5,ih (hs i hk).1 fun k hk'=>hf k (List.mem_cons_of_mem _ hk'),List.reverse_cons,List.map_append]
    rfl
   ·rw [hno] at q5; cases q5
section
variable {n:Nat} {l:List GClearingStep}
def initU (n u:Nat):List Lab:=(List.range n).map fun v=>⟨0,0,decide (v = u)⟩
theorem initU_len (n u:Nat):(initU n u).length = n:=by simp [initU]
theorem initU_el {n u v:Nat} (h:v < n):el (initU n u) v = ⟨0,0,decide (v = u)⟩:=by simp [initU,el,h]
theorem far_m (hn:n ≤ 1000) {u v:Nat} (hu:u < n):mallongeref42_Way_l1 n (l.map toR) u v 0 (List.replicate n (0:Int)) = some (List.replicate n 1099511627776):=by
 unfold mallongeref42_Way_l1
 suffices hh:∃ y,Iter (fun (w:Int × List Int)=>mallongeref42_Way_l1_s n (l.map toR) u v w.1 w.2) (0,List.replicate n (0:Int)) = some y ∧ y = List.replicate n 1099511627776 by
  obtain ⟨y,h1,h2⟩:=hh
  rw [h2] at h1; exact h1
 refine iter_for (step:=fun (w:Int × List Int)=>mallongeref42_Way_l1_s n (l.map toR) u v w.1 w.2) (fun k (a:List Int)=>((k:Int),a)) n (fun k a=>a.length = n ∧ ∀ j,j < k→el a j = 1099511627776) _ ?_ ?_ _ ⟨List.length_replicate,fun j hj=>absurd hj (Nat.not_lt_zero _)⟩
 ·rintro k a hk ⟨h1,h2⟩
  refine .inl ⟨a.set k 1099511627776,?_,by simp [h1],fun j hj=>?_⟩
  ·show mallongeref42_Way_l1_s n (l.map toR) u v k a = _
   unfold mallongeref42_Way_l1_s
   have c0:decide ((k:Int) < (n:Int)) = true:=by simpa using hk
   have ck:0 ≤ (k:Int) ∧ (k:Int).toNat < a.length:=⟨by omega,by rw [Int.toNat_natCast]; omega⟩
   have ek:a[(k:Int).toNat]? = some (el a k):=by rw [Int.toNat_natCast]; exact atE a k (by omega)
   have w3:IntKind.wrap .i64 ((k:Int) + 1) = ((k + 1:Nat):Int):=wrap_succ (by omega)
   simp only [if_pos c0,if_pos ck,ek,Option.bind_some,w3]
   rw [Int.toNat_natCast]
  ·rw [el_set_any]
   by_cases e:j = k
   ·subst e; rw [if_pos ⟨rfl,by omega⟩]
   ·rw [if_neg fun q=>e q.1]; exact h2 j (by omega)
 ·rintro a ⟨h1,h2⟩
  refine ⟨a,?_,?_⟩
  ·show mallongeref42_Way_l1_s n (l.map toR) u v n a = _
   unfold mallongeref42_Way_l1_s
   rw [if_neg (by simp)]
  ·refine ext_elC (by rw [h1,List.length_replicate]) fun j hj=>?_
   rw [h1] at hj
   rw [h2 j hj,el_replicate_any _ _ _ hj]
theorem initU_cost {u:Nat} (hu:u < n):(List.replicate n (1099511627776:Int)).set u 0 = (initU n u).map cOf:=by
 refine ext_elC (by rw [List.length_set,List.length_replicate,List.length_map,initU_len]) fun j hj=>?_
 rw [List.length_set,List.length_replicate] at hj
 rw [el_set_any,List.length_replicate,el_map' cOf _ _ (by rw [initU_len]; exact hj),initU_el hj,el_replicate_any _ _ _ hj]
 unfold cOf
 by_cases e:j = u
 ·rw [if_pos ⟨e,hu⟩]; simp [e]
 ·rw [if_neg fun q=>e q.1]; simp [e]
structure WayX (n:Nat) (l:List GClearingStep) (u v:Nat) (c:Int) (w:List Int) (q:Nat→Int) (F:Nat→Bool) (μ:Nat→Nat) (last:List Int):Prop where
 tree:TreeS n (l.map stpOf) (fun z=>F z = true) (fun z=>z = u) q μ last
 yes:F v = true→c = q v ∧ ∃ ks,Pth (l.map stpOf) last v ks u ∧ w = (ks.reverse.map fun (k:Nat)=>(k:Int)) ∧ ∀ k ∈ ks,k < l.length ∧ F (el (l.map stpOf) k).src = true ∧ F (el (l.map stpOf) k).dst = true ∧ μ (el (l.map stpOf) k).src < μ (el (l.map stpOf) k).dst ∧ q (el (l.map stpOf) k).dst = q (el (l.map stpOf) k).src + (el (l.map stpOf) k).cost
 no:F v = false→c = 1099511627776
 wk:∀ z,z < n→F z = true→∃ k,WkC Stp.src Stp.dst Stp.cost (l.map stpOf) u k (q z) z
 le:∀ k c' z,WkC Stp.src Stp.dst Stp.cost (l.map stpOf) u k c' z→F z = true ∧ q z ≤ c'
 bound:∀ z,z < n→F z = true→-1000000 ≤ q z ∧ q z ≤ 1000000
theorem way_m (hn:n ≤ 40) (hl:∀ g ∈ l,OkSt n g ∧ g.from_ ≠ g.to) (hll:l.length ≤ 1000) {p:Nat→Int} (hp:Pot Stp.src Stp.dst Stp.cost (l.map stpOf) p) {u v:Nat} (hu:u < n) (hv:v < n) :
  ∃ c w q F μ last,mallongeref42_Way n (l.map toR) u v = some (c,w) ∧ WayX n l u v c w q F μ last:=by
 have hok:∀ g ∈ l,OkSt n g:=fun g hg=>(hl g hg).1
 have hs3:∀ i,i < (l.map stpOf).length→(el (l.map stpOf) i).src < n ∧ (el (l.map stpOf) i).dst < n ∧ (el (l.map stpOf) i).src ≠ (el (l.map stpOf) i).dst:=by
  intro i hi
  rw [List.length_map] at hi
  rw [el_map' stpOf l i hi]
  obtain ⟨⟨⟨g1,g2⟩,⟨g3,g4⟩,_⟩,g7⟩:=hl _ (el_mem _ _ hi)
  simp only [Stp.src,Stp.dst,stpOf]
  omega
 have hs:∀ i,i < (l.map stpOf).length→(el (l.map stpOf) i).src < n ∧ (el (l.map stpOf) i).dst < n:=fun i hi=>⟨(hs3 i hi).1,(hs3 i hi).2.1⟩
 have tr:∀ {x y z:Lab},leS lessL x y→leS lessL y z→leS lessL x z:=fun hxy hyz=>labO.neg _ _ _ hyz hxy
 have hil:=initU_len n u
 have rounds:∃ best last ways,mallongeref42_Way_l5 n (l.map toR) v 0 ((initU n u).map cOf) (List.replicate n []) = some (best.map cOf,ways) ∧ InvS lessL onwL Stp.src Stp.dst (l.map stpOf) (initU n u) best last ∧ WInv n (l.map stpOf) best last ways ∧ BoundL n ((n * l.length:Nat):Int) best ∧ ∀ k a z,k ≤ n→WkS onwL Stp.src Stp.dst (l.map stpOf) (initU n u) k a z→leS lessL (el best z) a:=by
  unfold mallongeref42_Way_l5
  suffices hh:∃ y,Iter (fun (w:Int × List Int × List (List Int))=>mallongeref42_Way_l5_s n (l.map toR) v w.1 w.2.1 w.2.2) (0,(initU n u).map cOf,List.replicate n []) = some y ∧ ∃ best last ways,y = (best.map cOf,ways) ∧ InvS lessL onwL Stp.src Stp.dst (l.map stpOf) (initU n u) best last ∧ WInv n (l.map stpOf) best last ways ∧ BoundL n ((n * l.length:Nat):Int) best ∧ ∀ k a z,k ≤ n→WkS onwL Stp.src Stp.dst (l.map stpOf) (initU n u) k a z→leS lessL (el best z) a by
   obtain ⟨y,h1,best,last,ways,rfl,h2⟩:=hh
   exact ⟨best,last,ways,h1,h2⟩
  refine iter_for (step:=fun (w:Int × List Int × List (List Int))=>mallongeref42_Way_l5_s n (l.map toR) v w.1 w.2.1 w.2.2) (fun r (a:List Lab × List Int × List (List Int))=>((r:Int),a.1.map cOf,a.2.2)) n
   (fun r a=>InvS lessL onwL Stp.src Stp.dst (l.map stpOf) (initU n u) a.1 a.2.1 ∧ WInv n (l.map stpOf) a.1 a.2.1 a.2.2 ∧ BoundL n ((r * l.length:Nat):Int) a.1 ∧ ∀ k b z,k ≤ r→WkS onwL Stp.src Stp.dst (l.map stpOf) (initU n u) k b z→leS lessL (el a.1 z) b) _ ?_ ?_ (initU n u,List.replicate n (-1),List.replicate n []) ⟨?_,?_,?_,?_⟩
  ·rintro r ⟨best,last,ways⟩ hr ⟨i1,i2,i3,i4⟩
   dsimp only at i1 i2 i3 i4
   have hb:best.length = n:=by rw [i1.len,hil]
   have hla:last.length = n:=by rw [i1.lenL,hil]
   have hmul:r * l.length ≤ 40 * 1000:=Nat.mul_le_mul (by omega) hll
   obtain ⟨b,la,ch,e,q1,q2,q3,_⟩:=round_inv labO (by rw [hil]; exact hs) i1
   have hfst:(foldW (l.map stpOf) l.length ((best,last,false),ways)).1 = (b,la,ch):=by
    rw [foldW_fst,← e]
    unfold roundS
    rw [List.length_map]
   have hw:=winv_fold hs3 hok hb hla i3 (by omega) i2 l.length (Nat.le_refl _)
   have hbd:=(round_boundW hok hb hla i3 (by omega) (Nat.le_refl _) ways).2.2
   have hrun:=wround_m hs3 hok hb hla i3 (by omega) (by omega) i2 v r
   rw [hfst] at hw hbd hrun
   dsimp only at hw hbd hrun
   refine .inl ⟨(b,la,(foldW (l.map stpOf) l.length ((best,last,false),ways)).2),?_,q1,hw,?_,fun k a z hk w=>?_⟩
   ·show mallongeref42_Way_l5_s n (l.map toR) v r (best.map cOf) ways = _
    unfold mallongeref42_Way_l5_s
    have c0:decide ((r:Int) < (n:Int)) = true:=by simpa using hr
    rw [if_pos c0,hrun,Option.bind_some,wrap_succ (by omega)]
   ·have e2:(((r + 1) * l.length:Nat):Int) = ((r * l.length:Nat):Int) + (l.length:Int):=by rw [Nat.succ_mul]; omega
    rw [e2]; exact hbd
   ·cases w with
    | zero _ hv=>exact tr (q2 _ hv) (i4 0 _ _ (Nat.zero_le _) (.zero _ hv))
    | step i hi w=>exact tr (q3 i hi) (labO.mono _ _ _ (i4 _ _ _ (by omega) w))
  ·rintro ⟨best,last,ways⟩ hI
   refine ⟨_,?_,best,last,ways,rfl,hI⟩
   show mallongeref42_Way_l5_s n (l.map toR) v n (best.map cOf) ways = _
   unfold mallongeref42_Way_l5_s
   rw [if_neg (by simp)]
  ·exact ⟨rfl,by simp [hil],fun v hv=>⟨0,.zero v hv⟩,fun v hv=>labO.irr _,fun v hv=>.inl ⟨el_replicate_any _ _ _ (by rw [hil] at hv; exact hv),rfl⟩⟩
  ·refine ⟨List.length_replicate,fun v hv=>.inl ⟨el_replicate_any _ _ _ hv,el_replicate_any _ _ _ hv⟩,fun v hv _=>?_,fun v hv _=>el_replicate_any _ _ _ hv⟩
   rw [initU_el hv,el_replicate_any _ _ _ hv]; rfl
  ·intro v hv
   rw [initU_el hv]
   simp
  ·intro k b z hk w
   obtain rfl:k = 0:=by omega
   cases w with
   | zero v hv=>exact labO.irr _
 obtain ⟨best,last,ways,h1,h2,h3,h4,h5⟩:=rounds
 have hb:best.length = n:=by rw [h2.len,hil]
 have hdom:∀ k a z,WkS onwL Stp.src Stp.dst (l.map stpOf) (initU n u) k a z→leS lessL (el best z) a:=by
  intro k a z w
  obtain ⟨j,a',q1,q2,q3⟩:=wk_short (labA Stp.cost fun _=>rfl) hp (by rw [hil]; exact hs) k a z w
  rw [hil] at q1
  exact tr (h5 j a' z q1 q2) q3
 have hcl:∀ i,i < (l.map stpOf).length→leS lessL (el best (el (l.map stpOf) i).dst) (onwL (el best (el (l.map stpOf) i).src) (el (l.map stpOf) i)):=by
  intro i hi
  obtain ⟨k,w⟩:=h2.wk (el (l.map stpOf) i).src (by rw [hil]; exact (hs i hi).1)
  exact hdom _ _ _ (.step i hi w)
 have T:=inv_tree (fun z=>decide (z = u)) hs hil (fun v hv=>initU_el hv) h2 hcl
 have hmul:n * l.length ≤ 40 * 1000:=Nat.mul_le_mul hn hll
 refine ⟨cOf (el best v),el ways v,fun z=>(el best z).c,fun z=>(el best z).fine,fun z=>(el best z).k.toNat,last,?_,?_⟩
 ·unfold mallongeref42_Way
  have cu:0 ≤ (u:Int) ∧ (u:Int).toNat < (List.replicate n (1099511627776:Int)).length:=⟨by omega,by rw [Int.toNat_natCast,List.length_replicate]; exact hu⟩
  have eu:(List.replicate n (1099511627776:Int))[(u:Int).toNat]? = some 1099511627776:=by rw [Int.toNat_natCast,atE _ _ (by rw [List.length_replicate]; exact hu),el_replicate_any _ _ _ hu]
  have cv:0 ≤ (v:Int) ∧ (v:Int).toNat < (best.map cOf).length:=⟨by omega,by rw [Int.toNat_natCast,List.length_map]; omega⟩
  have ev:(best.map cOf)[(v:Int).toNat]? = some (cOf (el best v)):=by rw [Int.toNat_natCast,List.getElem?_map,atE best v (by omega)]; rfl
  have cv2:0 ≤ (v:Int) ∧ (v:Int).toNat < ways.length:=⟨by omega,by rw [Int.toNat_natCast,h3.len]; omega⟩
  have ev2:ways[(v:Int).toNat]? = some (el ways v):=by rw [Int.toNat_natCast]; exact atE ways v (by rw [h3.len]; exact hv)
  rw [if_pos (by omega),if_pos (by omega),Int.toNat_natCast,far_m (by omega) hu,Option.bind_some,if_pos cu,eu,Option.bind_some,Int.toNat_natCast,initU_cost hu,h1,Option.bind_some]
  dsimp only
  rw [if_pos cv,ev,Option.bind_some,if_pos cv2,ev2]
  rfl
 ·have hT:TreeS n (l.map stpOf) (fun z=>(el best z).fine = true) (fun z=>z = u) (fun z=>(el best z).c) (fun z=>(el best z).k.toNat) last:=by
   refine ⟨fun w hw hF=>?_,T.closed,fun w hw hR=>T.root w hw (decide_eq_true hR)⟩
   rcases T.tree w hw hF with ⟨q1,q2⟩ | q
   ·exact .inl ⟨q1,of_decide_eq_true q2⟩
   ·exact .inr q
  refine ⟨hT,fun hF=>?_,fun hF=>?_,fun z hz hF=>?_,fun k c' z w=>?_,fun z hz hF=>?_⟩
  ·refine ⟨if_pos hF,?_⟩
   obtain ⟨ks,u',w,q1,q2,q3,q4⟩:=hT.path _ v (Nat.lt_succ_self _) hv hF
   subst q2
   refine ⟨ks,w,?_,fun k hk=>?_⟩
   ·exact ways_path hs h3 hcl (fun z hz hf k hk hlz=>by
     rcases h2.last_ z (by rw [hil]; exact hz) with ⟨r1,_⟩ | ⟨j,r1,r2,r3,r4⟩
     ·rw [hlz] at r1; omega
     ·obtain rfl:k = j:=by omega
      exact r4) w hv fun k hk=>⟨(q4 k hk).2.1,(q4 k hk).2.2.1⟩
   ·obtain ⟨r1,r2,r3,r4,r5,r6⟩:=q4 k hk
    exact ⟨by rwa [List.length_map] at r1,r2,r3,r4,r6⟩
  ·exact if_neg (by rw [hF]; decide)
  ·obtain ⟨k,w⟩:=h2.wk z (by rw [hil]; exact hz)
   obtain ⟨u',c,hu',hw,e⟩:=wkS_C (labA Stp.cost fun _=>rfl) w
   rw [hil] at hu'
   rw [initU_el hu'] at e
   have e1:(el best z).c = c:=by rw [e]; simp [addL]
   have e2:(el best z).fine = decide (u' = u):=by rw [e]; rfl
   rw [e2] at hF
   obtain rfl:=of_decide_eq_true hF
   rw [e1]
   exact ⟨k,hw⟩
  ·have:=hdom _ _ _ (wkC_S (labA Stp.cost fun _=>rfl) (init:=initU n u) (by rw [hil]; exact hu) w)
   unfold leS at this
   rw [lessL_no,initU_el hu] at this
   simp [addL] at this
   exact ⟨this.1,by omega⟩
  ·have:=h4 z hz
   omega
end
end Go.Proofs.Ytgipgbhlibafhaa
