/- The laws of layer 11 (tenor): TenorHalts. -/
import Derived.Test.YtjllkddmkdajcaaPLaw11
set_option linter.unusedVariables false
set_option linter.unusedSimpArgs false
namespace Go.Proofs.Ytjllkddmkdajcaa
open Go.RowKit Vm
theorem settle_first {H H' : Int→Bool} (hb:HB H) (hb' : HB H') {t t' : Town} {d x y:Int} (hd:d ≤ 100001) (hH:∀ s,H s = true→H' s = true) (ht:∀ s,Cal.openD t' s = true→Cal.openD t s = true)
  (h:settleD H t d = some x) (h' : settleD H' t' d = some y):x ≤ y ∧ (H' x = false→Cal.openD t' x = true→y = x):=by
 obtain ⟨s1,s2,s3,s4,s5⟩:=settle_in hb hd h
 obtain ⟨q1,q2,q3,q4,q5⟩:=settle_in hb' hd h'
 have hxy:x ≤ y:=by
  by_cases c:y < x
  ·rcases s5 y q1 c with e | e
   ·rw [hH y e] at q3; cases q3
   ·rw [ht y q4] at e; cases e
  ·omega
 refine ⟨hxy,fun g1 g2=>?_⟩
 by_cases c:x < y
 ·rcases q5 x s1 c with e | e
  ·rw [e] at g1; cases g1
  ·rw [e] at g2; cases g2
 ·omega
abbrev moreR (r:GRealm) (h:GHalt):GRealm:=GRealm.mk r.Currencies r.Cities r.Groups r.Firms r.Orders r.Usances r.Rates (r.Halts ++ [h])
theorem halB_more (r:GRealm) (h:GHalt) (o d:Int):halB (moreR r h) o d = (halB r o d || haltIn o d h):=by
 unfold halB
 simp
theorem hal20 {r:GRealm} (h:Right r):r.Halts.length ≤ 20:=by
 have q:=h.rest
 unfold restOf at q
 by_cases c1:r.Rates.length ≤ 100
 ·rw [if_pos c1] at q
  by_cases c2:allN (fun i=>rateB r (el r.Rates i)) r.Rates.length = true
  ·rw [if_pos c2] at q
   by_cases c3:r.Halts.length ≤ 20
   ·exact c3
   ·rw [if_neg c3] at q; cases q
  ·rw [if_neg c2] at q; cases q
 ·rw [if_neg c1] at q; cases q
theorem few_more {r:GRealm} (f:FewL r) (hR:Right r) (h:GHalt):FewL (moreR r h) where
 cur:=f.cur
 cit:=f.cit
 grp:=f.grp
 frm:=f.frm
 ord:=f.ord
 usa:=f.usa
 rat:=f.rat
 hal:=by
  have:=hal20 hR
  show (r.Halts ++ [h]).length < 50
  rw [List.length_append,List.length_singleton]
  omega
 cityL:=f.cityL
 orderL:=f.orderL
theorem wf_more {r:GRealm} (hR:Right r) (w:GRealm.wf r) {h:GHalt} (wh:GHalt.wf h):GRealm.wf (moreR r h):=by
 obtain ⟨w1,w2,w3,w4,w5,w6,w7,w8⟩:=w
 refine ⟨w1,w2,w3,w4,w5,w6,w7,?_,?_⟩
 ·have:=hal20 hR
  show (r.Halts ++ [h]).length ≤ _
  rw [List.length_append,List.length_singleton]
  omega
 ·intro x hx
  rcases List.mem_append.1 hx with q | q
  ·exact w8.2 x q
  ·rw [List.mem_singleton.1 q]; exact wh
theorem halts_due {r:GRealm} {b:GBill} {seen grace:Int} {halt:GHalt} (hM:checkOf (moreR r halt) = 0) (hd:(dueFull r b seen grace).2 = 0) :
  ((dueFull (moreR r halt) b seen grace).2 = 0 ∧ (dueFull r b seen grace).1 ≤ (dueFull (moreR r halt) b seen grace).1 ∨ dueFull (moreR r halt) b seen grace = (0,3)) ∧
  (haltIn (orderAtOf r b.Pay) (dueFull r b seen grace).1 halt = false→dueFull (moreR r halt) b seen grace = dueFull r b seen grace):=by
 obtain ⟨h0,hi,hp,hns,hb0,hbd,hbg,x,hx,hxd⟩:=due_zero hd
 obtain ⟨i1,i2,i3⟩:=in_parts hi
 obtain ⟨p1,p2,p3,p4⟩:=pre_parts hp
 have hbd' : 0 ≤ (baseOf r b seen).1 ∧ (baseOf r b seen).1 ≤ 100000:=by unfold dayB at hbd; rwa [decide_eq_true_eq] at hbd
 have e:dueFull (moreR r halt) b seen grace = endOf (settleOf (moreR r halt) b.Pay ((baseOf r b seen).1 + grace)):=by
  have hi' : inOk (moreR r halt) b = true:=hi
  have hb' : baseOf (moreR r halt) b seen = baseOf r b seen:=rfl
  unfold dueFull dueAt
  rw [if_pos ⟨hM,hi',hp⟩,if_neg hns,hb',if_pos hb0,if_pos ⟨hbd,hbg⟩]
 rw [hxd,e]
 have es:settleOf (moreR r halt) b.Pay ((baseOf r b seen).1 + grace) = settleD (halB (moreR r halt) (orderAtOf r b.Pay)) (townOf11 (el r.Cities b.Pay.toNat)) ((baseOf r b seen).1 + grace):=rfl
 have hx' : settleD (halB r (orderAtOf r b.Pay)) (townOf11 (el r.Cities b.Pay.toNat)) ((baseOf r b seen).1 + grace) = some x:=hx
 have hb:=hal_HB (haltsOk_of (check_zero.1 h0)) (orderAtOf r b.Pay)
 have hb':=hal_HB (haltsOk_of (check_zero.1 hM)) (orderAtOf r b.Pay)
 have hH:∀ s,halB r (orderAtOf r b.Pay) s = true→halB (moreR r halt) (orderAtOf r b.Pay) s = true:=fun s q=>by rw [halB_more,q]; rfl
 rw [es]
 obtain ⟨s1,s2,s3,s4,s5⟩:=settle_in hb (by omega) hx'
 constructor
 ·cases hy:settleD (halB (moreR r halt) (orderAtOf r b.Pay)) (townOf11 (el r.Cities b.Pay.toNat)) ((baseOf r b seen).1 + grace) with
  | none=>exact .inr rfl
  | some y=>exact .inl ⟨rfl,(settle_first hb hb' (by omega) hH (fun s q=>q) hx' hy).1⟩
 ·intro hn
  have hx0:halB (moreR r halt) (orderAtOf r b.Pay) x = false:=by rw [halB_more,s3]; simpa using hn
  obtain ⟨y,hy,_⟩:=settle_reach hb' (t:=townOf11 (el r.Cities b.Pay.toNat)) hx0 s2 _ ((baseOf r b seen).1 + grace) (Nat.le_refl _) (by omega) s1 fun s g1 g2 g3=>by
   refine settle_next hb _ _ _ (Nat.le_refl _) (by omega) (by omega) hx' s g1 g2 ?_
   rw [halB_more,Bool.or_eq_false_iff] at g3
   exact g3.1
  rw [hy,(settle_first hb hb' (by omega) hH (fun s q=>q) hx' hy).2 hx0 s4]
  rfl
def shutL (l:List Int) (x:Int):List Int:=(l.filter fun d=>decide (d < x)) ++ [x] ++ l.filter fun d=>decide (d > x)
theorem mem_shutL {l:List Int} {x d:Int}:d ∈ shutL l x ↔ d ∈ l ∨ d = x:=by
 unfold shutL
 simp only [List.mem_append,List.mem_filter,List.mem_singleton,decide_eq_true_eq]
 constructor
 ·rintro ((⟨h,_⟩ | h) | ⟨h,_⟩)
  ·exact .inl h
  ·exact .inr h
  ·exact .inl h
 ·rintro (h | h)
  ·rcases Int.lt_trichotomy d x with q | q | q
   ·exact .inl (.inl ⟨h,q⟩)
   ·exact .inl (.inr q)
   ·exact .inr ⟨h,q⟩
  ·exact .inl (.inr h)
theorem filter_two (l:List Int) (x:Int):(l.filter fun d=>decide (d < x)).length + (l.filter fun d=>decide (d > x)).length ≤ l.length:=by
 induction l with
 | nil=>simp
 | cons a l ih =>
  simp only [List.filter_cons]
  by_cases h1:a < x
  ·have h2:¬ a > x:=by omega
   simp only [h1,h2,decide_true,decide_false,if_true,if_false,Bool.false_eq_true,List.length_cons]
   omega
  ·by_cases h2:a > x
   ·simp only [h1,h2,decide_true,decide_false,if_true,if_false,Bool.false_eq_true,List.length_cons]
    omega
   ·simp only [h1,h2,decide_true,decide_false,if_true,if_false,Bool.false_eq_true,List.length_cons]
    omega
theorem shutL_len (l:List Int) (x:Int):(shutL l x).length ≤ l.length + 1:=by
 have:=filter_two l x
 unfold shutL
 simp only [List.length_append,List.length_singleton]
 omega
abbrev shutC (c:GCity) (x:Int):GCity:=GCity.mk c.Name c.Order c.Currency c.Rest c.Feasts (shutL c.Shut x)
abbrev closeR (r:GRealm) (i:Nat) (x:Int):GRealm:=GRealm.mk r.Currencies (r.Cities.set i (shutC (el r.Cities i) x)) r.Groups r.Firms r.Orders r.Usances r.Rates r.Halts
theorem el_set_same {α:Type} [Inhabited α] (l:List α) (i:Nat) (c:α) (h:i < l.length):el (l.set i c) i = c:=by
 rw [el_lt _ _ (by simpa using h)]; simp
theorem el_set_ne {α:Type} [Inhabited α] (l:List α) (i j:Nat) (c:α) (h:j ≠ i):el (l.set i c) j = el l j:=by
 unfold el
 rw [List.getD_eq_getElem?_getD,List.getD_eq_getElem?_getD,List.getElem?_set_ne (Ne.symm h)]
theorem shut_right {r:GRealm} (h:Right r) (i:Nat) (hi:i < r.Cities.length):(el r.Cities i).Shut.length ≤ 200:=by
 have hl:(r.Cities.map (·.Name)).length = r.Cities.length:=by simp
 have q:=((fitsOf_zero.1 h.cit).2 i (by omega)).2
 unfold cityB at q
 simp only [Bool.and_eq_true,decide_eq_true_eq] at q
 exact q.2.2.1
theorem few_close {r:GRealm} (f:FewL r) (hR:Right r) (i:Nat) (hi:i < r.Cities.length) (x:Int):FewL (closeR r i x) where
 cur:=f.cur
 cit:=by show (r.Cities.set i _).length < 50; rw [List.length_set]; exact f.cit
 grp:=f.grp
 frm:=f.frm
 ord:=f.ord
 usa:=f.usa
 rat:=f.rat
 hal:=f.hal
 cityL:=by
  intro j hj
  show (el (r.Cities.set i _) j).Feasts.length ≤ 70 ∧ (el (r.Cities.set i _) j).Shut.length ≤ 210 ∧ (el (r.Cities.set i _) j).Rest.length ≤ 8
  by_cases e:j = i
  ·subst e
   rw [el_set_same _ _ _ hi]
   have h1:=f.cityL j hi
   have h2:=shut_right hR j hi
   have h3:=shutL_len (el r.Cities j).Shut x
   exact ⟨h1.1,by show (shutL _ _).length ≤ 210; omega,h1.2.2⟩
  ·rw [el_set_ne _ _ _ _ e]
   have hj' : j < (r.Cities.set i (shutC (el r.Cities i) x)).length:=hj
   rw [List.length_set] at hj'
   exact f.cityL j hj'
 orderL:=f.orderL
theorem wf_close {r:GRealm} (hR:Right r) (w:GRealm.wf r) (i:Nat) (hi:i < r.Cities.length) {x:Int} (wx:I64 x):GRealm.wf (closeR r i x):=by
 obtain ⟨w1,w2,w3,w4,w5,w6,w7,w8⟩:=w
 refine ⟨w1,⟨?_,?_⟩,w3,w4,w5,w6,w7,w8⟩
 ·show (r.Cities.set i _).length ≤ _
  rw [List.length_set]; exact w2.1
 ·intro c hc
  rcases List.mem_or_eq_of_mem_set hc with q | q
  ·exact w2.2 c q
  ·rw [q]
   obtain ⟨c1,c2,c3,c4,c5,c6⟩:=w2.2 _ (el_mem _ i hi)
   refine ⟨c1,c2,c3,c4,c5,?_,?_⟩
   ·have h2:=shut_right hR i hi
    have h3:=shutL_len (el r.Cities i).Shut x
    show (shutL _ _).length ≤ _
    omega
   ·intro d hd
    rcases mem_shutL.1 hd with q | q
    ·exact c6.2 d q
    ·rw [q]; exact wx
theorem open_shut (c:GCity) (x d:Int):Cal.openD (townOf11 (shutC c x)) d = (Cal.openD (townOf11 c) d && !decide (d = x)):=by
 unfold Cal.openD townOf11
 simp only [mem_shutL]
 by_cases h1:d ∈ c.Shut <;> by_cases h2:d = x <;> simp [h1,h2]
theorem nx1_le {t:Town} {s n:Int} (h0:0 ≤ s) (h1:s ≤ n) (h2:n ≤ s + 400) (h3:n ≤ 100000) (h:Cal.openD t n = true):∃ k,Cal.nx1 t s = some k ∧ k ≤ n:=by
 cases hn:Cal.nx1 t s with
 | none =>
  have:=Cal.nx1_no (show Cal.okDay s from ⟨h0,by omega⟩) hn n h1 h2 h3
  rw [this] at h; cases h
 | some k =>
  obtain ⟨k1,k2,k3,k4,k5,k6⟩:=Cal.nx1_spec hn
  refine ⟨k,rfl,?_⟩
  by_cases ck:n < k
  ·rw [k6 n h1 ck] at h; cases h
  ·omega
theorem close_due {r:GRealm} {b:GBill} {seen grace shut:Int} (hC:checkOf (closeR r b.Pay.toNat shut) = 0) (hd:(dueFull r b seen grace).2 = 0) :
  (dueFull (closeR r b.Pay.toNat shut) b seen grace).2 = 0 ∧ (dueFull r b seen grace).1 ≤ (dueFull (closeR r b.Pay.toNat shut) b seen grace).1 ∧ (shut = (dueFull r b seen grace).1 ∨ (dueFull (closeR r b.Pay.toNat shut) b seen grace).1 = (dueFull r b seen grace).1) ∨
  (dueFull (closeR r b.Pay.toNat shut) b seen grace).2 = 3 ∧ shut ≤ (dueFull r b seen grace).1:=by
 obtain ⟨h0,hi,hp,hns,hb0,hbd,hbg,x,hx,hxd⟩:=due_zero hd
 obtain ⟨i1,i2,i3⟩:=in_parts hi
 obtain ⟨p1,p2,p3,p4⟩:=pre_parts hp
 have hpl:b.Pay.toNat < r.Cities.length:=by omega
 have hbd' : 0 ≤ (baseOf r b seen).1 ∧ (baseOf r b seen).1 ≤ 100000:=by unfold dayB at hbd; rwa [decide_eq_true_eq] at hbd
 have hel:el (closeR r b.Pay.toNat shut).Cities b.Pay.toNat = shutC (el r.Cities b.Pay.toNat) shut:=el_set_same _ _ _ hpl
 have hlen:(closeR r b.Pay.toNat shut).Cities.length = r.Cities.length:=List.length_set
 have ho:orderAtOf (closeR r b.Pay.toNat shut) b.Pay = orderAtOf r b.Pay:=by
  unfold orderAtOf
  rw [hlen,hel]
 have e:dueFull (closeR r b.Pay.toNat shut) b seen grace = endOf (settleOf (closeR r b.Pay.toNat shut) b.Pay ((baseOf r b seen).1 + grace)):=by
  have hi' : inOk (closeR r b.Pay.toNat shut) b = true:=by
   unfold inOk townB at hi ⊢
   rw [hlen]; exact hi
  have hb' : baseOf (closeR r b.Pay.toNat shut) b seen = baseOf r b seen:=rfl
  unfold dueFull dueAt
  rw [if_pos ⟨hC,hi',hp⟩,if_neg hns,hb',if_pos hb0,if_pos ⟨hbd,hbg⟩]
 rw [hxd,e]
 have es:settleOf (closeR r b.Pay.toNat shut) b.Pay ((baseOf r b seen).1 + grace) = settleD (halB r (orderAtOf r b.Pay)) (townOf11 (shutC (el r.Cities b.Pay.toNat) shut)) ((baseOf r b seen).1 + grace):=by
  unfold settleOf
  rw [ho,hel]
  rfl
 have hx' : settleD (halB r (orderAtOf r b.Pay)) (townOf11 (el r.Cities b.Pay.toNat)) ((baseOf r b seen).1 + grace) = some x:=hx
 have hb:=hal_HB (haltsOk_of (check_zero.1 h0)) (orderAtOf r b.Pay)
 have ht:∀ s,Cal.openD (townOf11 (shutC (el r.Cities b.Pay.toNat) shut)) s = true→Cal.openD (townOf11 (el r.Cities b.Pay.toNat)) s = true:=fun s q=>by
  rw [open_shut,Bool.and_eq_true] at q; exact q.1
 rw [es]
 obtain ⟨s1,s2,s3,s4,s5⟩:=settle_in hb (by omega) hx'
 cases hy:settleD (halB r (orderAtOf r b.Pay)) (townOf11 (shutC (el r.Cities b.Pay.toNat) shut)) ((baseOf r b seen).1 + grace) with
 | some y =>
  obtain ⟨g1,g2⟩:=settle_first hb hb (by omega) (fun s q=>q) ht hx' hy
  refine .inl ⟨rfl,g1,?_⟩
  by_cases c:shut = x
  ·exact .inl c
  ·exact .inr (g2 s3 (by rw [open_shut,s4]; simp; omega))
 | none =>
  refine .inr ⟨rfl,?_⟩
  show shut ≤ x
  by_cases c:shut ≤ x
  ·exact c
  ·exfalso
   obtain ⟨y,hy',_⟩:=settle_reach hb (t:=townOf11 (shutC (el r.Cities b.Pay.toNat) shut)) s3 s2 _ ((baseOf r b seen).1 + grace) (Nat.le_refl _) (by omega) s1 fun s g1 g2 g3=>by
    obtain ⟨n,hn,hnx⟩:=settle_next hb _ _ _ (Nat.le_refl _) (by omega) (by omega) hx' s g1 g2 g3
    obtain ⟨k1,k2,k3,k4,k5,k6⟩:=Cal.nx1_spec hn
    obtain ⟨k,hk,hkn⟩:=nx1_le (t:=townOf11 (shutC (el r.Cities b.Pay.toNat) shut)) (show 0 ≤ s by omega) k2 k3 k4 (by rw [open_shut,k5]; simp; omega)
    exact ⟨k,hk,by omega⟩
   rw [hy'] at hy; cases hy
theorem filter_step (l:List Int) (p:Int→Bool) (i:Nat) (hi:i < l.length):(l.take (i + 1)).filter p = if p (el l i) = true then (l.take i).filter p ++ [el l i] else (l.take i).filter p:=by
 rw [← take_succ_el l i hi,List.filter_append]
 by_cases h:p (el l i) = true
 ·rw [if_pos h]; simp [h]
 ·rw [if_neg h]; simp [h]
theorem halts_l1 (r:GRealm) (b:GBill) (seen grace shut:Int) (p:Int × Int) (c:GCity) (hl:c.Shut.length ≤ 200):mallongelaw11_TenorHalts_l1 r b seen grace shut true p c 0 [] = some (c.Shut.filter fun d=>decide (d < shut)):=by
 unfold mallongelaw11_TenorHalts_l1
 have:=iter_all (step:=fun w:Int × List Int=>mallongelaw11_TenorHalts_l1_s r b seen grace shut true p c w.1 w.2) (fun i:Nat=>((i:Int),(c.Shut.take i).filter fun d=>decide (d < shut))) c.Shut.length (c.Shut.filter fun d=>decide (d < shut)) ?_ ?_
 ·exact this
 ·intro i hi
  have hle:((c.Shut.take i).filter fun d=>decide (d < shut)).length ≤ 200:=by
   have h1:=List.length_filter_le (fun d=>decide (d < shut)) (c.Shut.take i)
   have h2:(c.Shut.take i).length ≤ i:=by simp; omega
   omega
  simp only [mallongelaw11_TenorHalts_l1_s,lt_t hi,if_true,at_el _ _ hi,Option.bind_some,wrap_succ (show i < 9223372036854775807 by omega),filter_step _ _ _ hi]
  by_cases h:el c.Shut i < shut
  ·rw [if_pos (decide_eq_true h),if_pos (by omega),if_pos (decide_eq_true h)]
  ·rw [if_neg (fun z=>h (of_decide_eq_true z)),if_neg (fun z=>h (of_decide_eq_true z))]
 ·simp only [mallongelaw11_TenorHalts_l1_s,lt_f,if_false,List.take_length]
theorem halts_l2 (r:GRealm) (b:GBill) (seen grace shut:Int) (p:Int × Int) (c:GCity) (pre:List Int) (hp:pre.length ≤ 300) (hl:c.Shut.length ≤ 200):mallongelaw11_TenorHalts_l2 r b seen grace shut true p c 0 pre = some (pre ++ c.Shut.filter fun d=>decide (d > shut)):=by
 unfold mallongelaw11_TenorHalts_l2
 have:=iter_all (step:=fun w:Int × List Int=>mallongelaw11_TenorHalts_l2_s r b seen grace shut true p c w.1 w.2) (fun i:Nat=>((i:Int),pre ++ (c.Shut.take i).filter fun d=>decide (d > shut))) c.Shut.length (pre ++ c.Shut.filter fun d=>decide (d > shut)) ?_ ?_
 ·simpa using this
 ·intro i hi
  have hle:(pre ++ (c.Shut.take i).filter fun d=>decide (d > shut)).length ≤ 500:=by
   have h1:=List.length_filter_le (fun d=>decide (d > shut)) (c.Shut.take i)
   have h2:(c.Shut.take i).length ≤ i:=by simp; omega
   rw [List.length_append]
   omega
  simp only [mallongelaw11_TenorHalts_l2_s,lt_t hi,if_true,at_el _ _ hi,Option.bind_some,wrap_succ (show i < 9223372036854775807 by omega),filter_step _ _ _ hi]
  by_cases h:el c.Shut i > shut
  ·rw [if_pos (decide_eq_true h),if_pos (by omega),if_pos (decide_eq_true h),List.append_assoc]
  ·rw [if_neg (fun z=>h (of_decide_eq_true z)),if_neg (fun z=>h (of_decide_eq_true z))]
 ·simp only [mallongelaw11_TenorHalts_l2_s,lt_f,if_false,List.take_length]
theorem halts_j3 (r:GRealm) (b:GBill) (seen grace shut:Int) (f:FewL r) (w:GRealm.wf r) (wx:I64 shut) (h0:checkOf r = 0) (hp:0 ≤ b.Pay ∧ b.Pay < r.Cities.length):mallongelaw11_TenorHalts_j3 r b seen grace shut true (dueFull r b seen grace) = some true:=by
 have hR:=check_zero.1 h0
 have hpl:b.Pay.toNat < r.Cities.length:=by omega
 have hc:=f.cit
 have hs:=shut_right hR _ hpl
 have hf:=few_close f hR _ hpl shut
 have hw:=wf_close hR w _ hpl wx
 have hle:((el r.Cities b.Pay.toNat).Shut.filter fun d=>decide (d < shut)).length ≤ 200:=by
  have h1:=List.length_filter_le (fun d=>decide (d < shut)) (el r.Cities b.Pay.toNat).Shut
  omega
 have hgl:r.Cities[b.Pay.toNat]? = some (el r.Cities b.Pay.toNat):=by rw [el_lt _ _ hpl]; simp [hpl]
 unfold mallongelaw11_TenorHalts_j3
 simp only [List.nil_append]
 rw [if_pos (show (0 + r.Cities.length) * 104 ≤ 140737488355328 by omega),if_pos (show 0 ≤ b.Pay ∧ b.Pay.toNat < r.Cities.length from ⟨hp.1,hpl⟩),hgl]
 simp only [Option.bind_some,halts_l1 r b seen grace shut _ _ hs]
 rw [if_pos (by omega)]
 rw [halts_l2 r b seen grace shut _ _ _ (by simp only [List.length_append,List.length_singleton]; omega) hs]
 simp only [Option.bind_some]
 rw [if_pos (show 0 ≤ b.Pay ∧ b.Pay.toNat < r.Cities.length from ⟨hp.1,hpl⟩)]
 have e1:=due_eq (closeR r b.Pay.toNat shut) b seen grace hf hw
 have e2:=check_eq (closeR r b.Pay.toNat shut) hf hw
 unfold closeR shutC shutL at e1 e2
 simp only [e1,e2,Option.bind_some]
 have key:=close_due (r:=r) (b:=b) (seen:=seen) (grace:=grace) (shut:=shut)
 unfold closeR shutC shutL at key
 generalize checkOf _ = C at key ⊢
 generalize dueFull r b seen grace = D at key ⊢
 generalize dueFull (GRealm.mk _ _ _ _ _ _ _ _) b seen grace = z at key ⊢
 by_cases c1:C = 0
 ·by_cases c2:D.2 = 0
  ·rcases key c1 c2 with ⟨k1,k2,k3 | k3⟩ | ⟨k1,k2⟩
   ·simp [c1,c2,k1,k2,k3]
   ·simp [c1,c2,k1,k2,k3]
   ·simp [c1,c2,k1,k2]
  ·simp [c1,c2]
 ·simp [c1]
section
variable (hs:mallongelaw11_sane = some true)
include hs
theorem law11_halts (r:GRealm) (b:GBill) (seen grace:Int) (halt:GHalt) (shut:Int) (w:GRealm.wf r) (wh:GHalt.wf halt) (wx:I64 shut):mallongelaw11_TenorHalts r b seen grace halt shut = some true:=by
 unfold mallongelaw11_TenorHalts
 obtain ⟨x,e1,f⟩:=few_spec r
 rw [hs,e1]
 cases x with
 | false=>rfl
 | true =>
  have f:=f rfl
  simp only [Option.bind_some,Bool.not_true,Bool.false_eq_true,if_false,check_eq r f w,bne_iff_ne,decide_eq_true_eq,due_eq r b seen grace f w,List.nil_append,orderAt_eq]
  by_cases h0:checkOf r = 0
  ·rw [if_neg (by simpa using h0)]
   have hR:=check_zero.1 h0
   by_cases d1:b.Pay < 0
   ·rw [if_pos d1]
   rw [if_neg d1]
   by_cases d2:b.Pay ≥ (r.Cities.length:Int)
   ·rw [if_pos d2]
   rw [if_neg d2]
   have hh:=hal20 hR
   have fm:=few_more f hR halt
   have wm:=wf_more hR w wh
   rw [if_pos (by omega),if_pos (by omega),due_eq (moreR r halt) b seen grace fm wm]
   simp only [Option.bind_some]
   have hj3:=halts_j3 r b seen grace shut f w wx h0 ⟨by omega,by omega⟩
   have hj4:∀ t:Bool,(t = false→haltIn (orderAtOf r b.Pay) (dueFull r b seen grace).1 halt = false)→mallongelaw11_TenorHalts_j4 r b seen grace halt shut true (dueFull r b seen grace) (dueFull (moreR r halt) b seen grace) t = some true:=by
    intro t ht
    unfold mallongelaw11_TenorHalts_j4
    simp only [List.nil_append,check_eq (moreR r halt) fm wm,Option.bind_some,hj3]
    have key:=halts_due (r:=r) (b:=b) (seen:=seen) (grace:=grace) (halt:=halt)
    generalize checkOf (moreR r halt) = C at key ⊢
    generalize dueFull (moreR r halt) b seen grace = y at key ⊢
    generalize dueFull r b seen grace = D at key ht ⊢
    by_cases c1:C = 0
    ·by_cases c2:D.2 = 0
     ·obtain ⟨k1,k2⟩:=key c1 c2
      cases t with
      | false =>
       have:=k2 (ht rfl)
       subst this
       simp [c1,c2]
      | true =>
       rcases k1 with ⟨q1,q2⟩ | q
       ·simp [c1,c2,q1,q2]
       ·simp [c1,c2,q]
     ·simp [c1,c2]
    ·simp [c1]
   by_cases t1:halt.Order = orderAtOf r b.Pay
   ·rw [if_pos (by simpa using t1)]
    by_cases t2:halt.From ≤ (dueFull r b seen grace).1
    ·rw [if_pos t2,hj4]
     ·rfl
     ·intro t3
      have t3:=of_decide_eq_false t3
      unfold haltIn
      rw [decide_eq_false_iff_not]
      exact fun q=>t3 q.2.2
    ·rw [if_neg t2,hj4]
     ·rfl
     ·intro _
      unfold haltIn
      rw [decide_eq_false_iff_not]
      exact fun q=>t2 q.2.1
   ·rw [if_neg (by simpa using t1),hj4]
    ·rfl
    ·intro _
     unfold haltIn
     rw [decide_eq_false_iff_not]
     exact fun q=>t1 q.1
  ·rw [if_pos (by simpa using h0)]
end
end Go.Proofs.Ytjllkddmkdajcaa
