/- The file of a day of a right file is right. -/
import Derived.Test.YtfhebiceipgdmaaPPaper2
import Derived.Test.YtfhebiceipgdmaaPRec14c
set_option linter.unusedVariables false
set_option linter.unusedSimpArgs false
namespace Go.Proofs.Ytfhebiceipgdmaa
open Go.RowKit Vm
theorem iR {α:Type} [Inhabited α] (l:List α) (n i:Nat) (h:i < n):el (l.take n) i = el l i:=by
 unfold el
 rw [List.getD_eq_getElem?_getD,List.getD_eq_getElem?_getD,List.getElem?_take_of_lt h]
theorem LA (S:List aO) (k:Nat) (m part:Int) (h:m.toNat < k):onB (S.take k) m part = onB S m part:=by
 unfold onB
 rw [iR _ _ _ h]
theorem N4 (S:List aO) (k i:Nat) (ks:List Int) (h:i < k):K7 (S.take k) i ks = K7 S i ks:=by
 unfold K7
 rw [iR _ _ _ h]
 by_cases c:0 ≤ (el S i).For ∧ (el S i).For ≤ (i:Int) - 1
 ·rw [LA _ _ _ _ (by omega),iR _ _ _ (by omega)]
 ·rw [decide_eq_false c]; rfl
theorem JJ (r:aA) (f:aB) (al:List aZ) (ac:List bB) (fa:List bG) (k i:Nat) (h:i < k):m6 r (aB.mk f.Bill (f.Signs.take k) al ac fa) i = m6 r f i:=by
 have e1:el (f.Signs.take k) i = el f.Signs i:=iR _ _ _ h
 have e2:el (f.Signs.take k) (i - 1) = el f.Signs (i - 1):=iR _ _ _ (by omega)
 have e3:∀ p2 s p4,E6 r (aB.mk f.Bill (f.Signs.take k) al ac fa) i p2 s p4 = E6 r f i p2 s p4:=by
  intro p2 s p4
  unfold E6
  simp only [N4 _ _ _ _ h]
 have e4:∀ s,twB (f.Signs.take k) s i = twB f.Signs s i:=by
  intro s
  unfold twB
  rw [List.take_take,Nat.min_eq_left (by omega)]
 unfold m6 YU lK
 simp only [e1,e2,e3,e4]
theorem HM {f:aB} (h:∀ i,i < f.Alters.length→wN f i = 0) (hl:f.Signs.length ≤ 40):∀ i,i < f.Alters.length→1 ≤ (el f.Alters i).At ∧ (el f.Alters i).At ≤ f.Signs.length ∧ (0 < i→(el f.Alters (i - 1)).At < (el f.Alters i).At):=by
 intro i
 induction i with
 | zero =>
  intro hi
  have q:=h 0 hi
  unfold wN at q
  by_cases c:IntKind.wrap .i64 (AC f 0 + 1) ≤ (el f.Alters 0).At ∧ (el f.Alters 0).At ≤ (f.Signs.length:Int)
  ·have e:IntKind.wrap .i64 (AC f 0 + 1) = 1:=by
    show IntKind.wrap .i64 (0 + 1) = 1
    decide
   rw [e] at c
   exact ⟨c.1,c.2,fun z=>by omega⟩
  ·rw [if_pos c] at q; cases q
 | succ i ih =>
  intro hi
  obtain ⟨p1,p2,_⟩:=ih (by omega)
  have q:=h (i + 1) hi
  unfold wN at q
  by_cases c:IntKind.wrap .i64 (AC f (i + 1) + 1) ≤ (el f.Alters (i + 1)).At ∧ (el f.Alters (i + 1)).At ≤ (f.Signs.length:Int)
  ·have e:AC f (i + 1) = (el f.Alters i).At:=by unfold AC; rw [if_neg (by omega)]; rfl
   rw [e,nQ (by omega) (by omega)] at c
   exact ⟨by omega,c.2,fun _=>by show (el f.Alters i).At < _; omega⟩
  ·rw [if_pos c] at q; cases q
theorem aDp {r:aA} {b:bD} (bg:H9 r) (w:aA.wf r) (h:BX r b = 0):0 ≤ b.Day ∧ b.Day ≤ 100000:=by
 apply Classical.byContradiction
 intro hn
 have h3:∃ e,e ≠ 0 ∧ iB r b = some (.inr e):=by
  refine ⟨3,by decide,?_⟩
  unfold iB
  by_cases c1:b.Sum < 1
  ·rw [if_pos (decide_eq_true c1)]
  rw [if_neg (fun q=>c1 (of_decide_eq_true q))]
  by_cases c2:b.Sum > 1099511627776
  ·rw [if_pos (decide_eq_true c2)]
  rw [if_neg (fun q=>c2 (of_decide_eq_true q))]
  by_cases c3:b.Day < 0
  ·rw [if_pos (decide_eq_true c3)]
  rw [if_neg (fun q=>c3 (of_decide_eq_true q)),if_pos (decide_eq_true (by omega))]
 obtain ⟨e3,n3,h3⟩:=h3
 have h4:∀ p,∃ e,e ≠ 0 ∧ cU r b p = some e:=by
  intro p
  unfold cU
  simp only [h3,CR,Option.bind_some,Sum.elim_inr]
  (repeat' split) <;> first | exact ⟨_,n3,rfl⟩ | exact ⟨_,by decide,rfl⟩
 obtain ⟨g,hg⟩:=Classical.axiomOfChoice h4
 have hgn:∀ p,g p ≠ 0:=fun p=>(hg p).1
 have hge:∀ p,cU r b p = some (g p):=fun p=>(hg p).2
 have h5:∃ e,e ≠ 0 ∧ gC r b = some e:=by
  unfold gC
  simp only [ML r bg w,CR,hge,Option.bind_some]
  by_cases c:OO r = 0
  ·rw [if_neg (by simpa using c)]
   (repeat' split) <;> exact ⟨_,hgn _,rfl⟩
  ·rw [if_pos (by simpa using c)]
   exact ⟨_,c,rfl⟩
 obtain ⟨e,n5,h5⟩:=h5
 rw [WU r b bg w] at h5
 exact n5 (by rw [← Option.some.inj h5]; exact h)
theorem yR {α:Type} [Inhabited α] (p:α→Bool):∀ (l:List α) (i:Nat),i < (l.takeWhile p).length→p (el l i) = true
 | [],i,h=>by simp at h
 | x :: l,i,h=>by
  cases hp:p x with
  | false=>simp [List.takeWhile,hp] at h
  | true =>
   simp only [List.takeWhile,hp,List.length_cons] at h
   cases i with
   | zero=>exact hp
   | succ i=>exact yR p l i (by omega)
theorem BB {α:Type} [Inhabited α] (p:α→Bool):∀ (l:List α),(l.takeWhile p).length < l.length→p (el l (l.takeWhile p).length) = false
 | [],h=>by simp at h
 | x :: l,h=>by
  cases hp:p x with
  | false=>simp only [List.takeWhile,hp]; exact hp
  | true =>
   simp only [List.takeWhile,hp,List.length_cons] at h ⊢
   exact BB p l (by omega)
theorem rT {α:Type} [Inhabited α] (p:α→Bool):∀ (l:List α),(∀ i j,i ≤ j→j < l.length→p (el l j) = true→p (el l i) = true)→l.filter p = l.takeWhile p
 | [],_=>rfl
 | x :: l,h=>by
  cases hp:p x with
  | false =>
   have hn:∀ y ∈ l,¬ p y = true:=by
    intro y hy hq
    obtain ⟨j,hj,rfl⟩:=B3 hy
    have:p x = true:=h 0 (j + 1) (by omega) (by simp; omega) hq
    rw [hp] at this; cases this
   rw [List.filter_cons_of_neg (by simp [hp]),List.filter_eq_nil_iff.2 hn]
   simp [List.takeWhile,hp]
  | true =>
   rw [List.filter_cons_of_pos hp,rT p l (fun i j hij hj hq=>h (i + 1) (j + 1) (by omega) (by simp; omega) hq)]
   simp [List.takeWhile,hp]
theorem MF {α:Type} [Inhabited α] (p:α→Bool) (l:List α) (h:∀ i,i < l.length→p (el l i) = true):l.takeWhile p = l:=by
 rw [vR p l l.length (Nat.le_refl _) h (fun q=>absurd q (by omega)),List.take_length]
theorem HB {α:Type} (p q:α→Bool):∀ l:List α,(l.takeWhile p).takeWhile q = l.takeWhile fun x=>p x && q x
 | []=>rfl
 | x :: l=>by
  cases hp:p x <;> cases hq:q x <;> simp [List.takeWhile,hp,hq,HB p q l]
theorem CV {r:aA} {f:aB} {i:Nat} (h:m6 r f i = 0):lK f i ≤ (el f.Signs i).Day ∧ (el f.Signs i).Day ≤ 100000 ∧ (i = 0→(el f.Signs i).Day = lK f i):=by
 unfold m6 at h
 split at h
 ·cases h
 split at h
 ·cases h
 split at h
 ·cases h
 split at h
 ·cases h
 rename_i c4
 split at h
 ·cases h
 rename_i c5
 have c4':=Decidable.not_not.1 c4
 exact ⟨c4'.1,c4'.2,fun e=>Classical.byContradiction fun q=>c5 ⟨e,q⟩⟩
theorem GO {r:aA} {f:aB} (h:∀ i,i < f.Signs.length→m6 r f i = 0):∀ i j,j ≤ i→i < f.Signs.length→(el f.Signs j).Day ≤ (el f.Signs i).Day:=by
 intro i
 induction i with
 | zero=>intro j hj _; obtain rfl:j = 0:=by omega
      exact Int.le_refl _
 | succ i ih =>
  intro j hj hi
  by_cases e:j = i + 1
  ·rw [e]; exact Int.le_refl _
  ·have h1:=ih j (by omega) (by omega)
   have h2:=(CV (h (i + 1) hi)).1
   have e2:lK f (i + 1) = (el f.Signs i).Day:=by unfold lK; rw [if_neg (by omega)]; rfl
   rw [e2] at h2
   omega
theorem EY {r:aA} {f:aB} {i:Nat} (h:uX r f i = 0):LW r f (el f.Acts i) = true ∧ AQ f i ≤ (el f.Acts i).Day ∧ (el f.Acts i).Day ≤ 100000:=by
 unfold uX at h
 split at h
 ·cases h
 split at h
 ·cases h
 split at h
 ·cases h
 split at h
 ·cases h
 rename_i c4
 split at h
 ·cases h
 rename_i c5
 have c5':=Decidable.not_not.1 c5
 exact ⟨by simpa using c4,c5'.1,c5'.2⟩
theorem GG (f:aB) (i:Nat):I6 f (el f.Acts i) ≤ AQ f i ∧ (0 < i→(el f.Acts (i - 1)).Day ≤ AQ f i):=by
 unfold AQ
 split
 ·split
  ·exact ⟨by omega,fun _=>Int.le_refl _⟩
  ·exact ⟨Int.le_refl _,fun _=>by omega⟩
 ·exact ⟨Int.le_refl _,fun q=>by omega⟩
theorem XA (f:aB) (a:bB):f.Bill.Day ≤ I6 f a ∧ (a.At ≠ -1→(el f.Signs a.At.toNat).Day ≤ I6 f a):=by
 unfold I6
 split
 ·split
  ·exact ⟨by omega,fun _=>Int.le_refl _⟩
  ·exact ⟨Int.le_refl _,fun _=>by omega⟩
 ·rename_i q
  exact ⟨Int.le_refl _,fun z=>absurd z q⟩
theorem MW {r:aA} {f:aB} (h:∀ i,i < f.Acts.length→uX r f i = 0):∀ i j,j ≤ i→i < f.Acts.length→(el f.Acts j).Day ≤ (el f.Acts i).Day:=by
 intro i
 induction i with
 | zero=>intro j hj _; obtain rfl:j = 0:=by omega
      exact Int.le_refl _
 | succ i ih =>
  intro j hj hi
  by_cases e:j = i + 1
  ·rw [e]; exact Int.le_refl _
  ·have h1:=ih j (by omega) (by omega)
   have h2:=(EY (h (i + 1) hi)).2.1
   have h3:=(GG f (i + 1)).2 (by omega)
   simp only [Nat.add_sub_cancel] at h3
   omega
theorem YE {α:Type} [Inhabited α] (day:α→Int) (l:List α) (d:Int) (hm:∀ i j,j ≤ i→i < l.length→day (el l j) ≤ day (el l i)) (i:Nat) (hi:i < l.length) (h:day (el l i) ≤ d):i < (l.takeWhile fun x=>decide (day x ≤ d)).length:=by
 apply Classical.byContradiction
 intro hn
 have h1:=BB (fun x=>decide (day x ≤ d)) l (by omega)
 have h2:=hm i _ (show (l.takeWhile fun x=>decide (day x ≤ d)).length ≤ i by omega) hi
 have h3:=of_decide_eq_false h1
 omega
theorem aC5 {f:aB} (h:∀ i,i < f.Alters.length→wN f i = 0) (hl:f.Signs.length ≤ 40):∀ i j,j ≤ i→i < f.Alters.length→(el f.Alters j).At ≤ (el f.Alters i).At:=by
 intro i
 induction i with
 | zero=>intro j hj _; obtain rfl:j = 0:=by omega
      exact Int.le_refl _
 | succ i ih =>
  intro j hj hi
  by_cases e:j = i + 1
  ·rw [e]; exact Int.le_refl _
  ·have h1:=ih j (by omega) (by omega)
   have h2:=(HM h hl (i + 1) hi).2.2 (by omega)
   simp only [Nat.add_sub_cancel] at h2
   omega
theorem HF {f:aB} {i:Nat} (h:tP f i = 0):(0 ≤ (el f.Facts i).At ∧ (el f.Facts i).At ≤ (f.Signs.length:Int) - 1) ∧ (0 < i→(el f.Facts (i - 1)).At ≤ (el f.Facts i).At):=by
 unfold tP at h
 split at h
 ·cases h
 split at h
 ·cases h
 rename_i c2
 split at h
 ·cases h
 split at h
 ·rename_i e; exact ⟨Decidable.not_not.1 c2,fun q=>by omega⟩
 split at h
 ·rename_i c; exact ⟨Decidable.not_not.1 c2,fun _=>by omega⟩
 ·cases h
theorem S1 {f:aB} (h:∀ i,i < f.Facts.length→tP f i = 0):∀ i j,j ≤ i→i < f.Facts.length→(el f.Facts j).At ≤ (el f.Facts i).At:=by
 intro i
 induction i with
 | zero=>intro j hj _; obtain rfl:j = 0:=by omega
      exact Int.le_refl _
 | succ i ih =>
  intro j hj hi
  by_cases e:j = i + 1
  ·rw [e]; exact Int.le_refl _
  ·have h1:=ih j (by omega) (by omega)
   have h2:=(HF (h (i + 1) hi)).2 (by omega)
   simp only [Nat.add_sub_cancel] at h2
   omega
theorem P0 (f:aB) (L:List aZ) (A:List bB) (F:List bG) (n:Nat) (hn:n ≤ f.Signs.length) (a:bB) (h:a.At = -1 ∨ 0 ≤ a.At ∧ a.At < n):UL (aB.mk f.Bill (f.Signs.take n) L A F) a = UL f a:=by
 unfold UL
 have e:(f.Signs.take n).length = n:=by simp; omega
 simp only [e]
 rcases h with h | h
 ·rw [decide_eq_false (by omega),decide_eq_false (by omega)]; rfl
 ·rw [LA _ _ _ _ (by omega),decide_eq_true (by omega),decide_eq_true (by omega)]
theorem Z2 (f:aB) (L:List aZ) (A:List bB) (F:List bG) (n:Nat) (hn:n ≤ f.Signs.length) (a:bB) (h:a.At = -1 ∨ 0 ≤ a.At ∧ a.At < n):LM (aB.mk f.Bill (f.Signs.take n) L A F) a = LM f a:=by
 unfold LM
 rw [P0 f L A F n hn a h]
 rcases h with h | h
 ·have:UL f a = false:=by unfold UL; rw [decide_eq_false (by omega)]; rfl
  rw [this]; rfl
 ·show (UL f a && (el (f.Signs.take n) a.At.toNat).Who == a.Who) = _
  rw [iR _ _ _ (by omega)]
theorem Y4 (f:aB) (L:List aZ) (A:List bB) (F:List bG) (n:Nat) (a:bB) (h:a.At = -1 ∨ 0 ≤ a.At ∧ a.At < n):I6 (aB.mk f.Bill (f.Signs.take n) L A F) a = I6 f a:=by
 unfold I6
 rcases h with h | h
 ·rw [if_neg (not_not_intro h),if_neg (not_not_intro h)]
 ·show (if a.At ≠ -1 then (if (el (f.Signs.take n) a.At.toNat).Day > f.Bill.Day then (el (f.Signs.take n) a.At.toNat).Day else f.Bill.Day) else f.Bill.Day) = _
  rw [iR _ _ _ (by omega)]
theorem aDa {r:aA} {f:aB} (h:yB r f = 0) (d:Int) (hd:f.Bill.Day ≤ d):yB r (mU f d) = 0:=by
 obtain ⟨⟨l1,l2,l3,l4⟩,h2,h3,h4,h5,h6,h7⟩:=oM.1 h
 have hn:=I4 f.Signs d
 have hm:=OT f.Acts d
 have eS:f.Signs.take (wQ f.Signs d).length = wQ f.Signs d:=tD _ _
 have eA:f.Acts.take (DX f.Acts d).length = DX f.Acts d:=tD _ _
 have p1:∀ i,i < f.Signs.length→(el f.Signs i).Day ≤ d→i < (wQ f.Signs d).length:=fun i hi q=>YE aO.Day f.Signs d (GO h4) i hi q
 have q2:∀ i,i < (DX f.Acts d).length→(el f.Acts i).Day ≤ d:=fun i hi=>of_decide_eq_true (yR (fun x:bB=>decide (x.Day ≤ d)) f.Acts i hi)
 generalize hN:(wQ f.Signs d).length = n at *
 generalize hM:(DX f.Acts d).length = m at *
 have eL0:sG f.Alters n = f.Alters.takeWhile fun x=>decide (x.At ≤ (n:Int)):=rT _ _ fun i j hij hj q=>by
  have:=aC5 h5 l1 j i hij hj
  have:=of_decide_eq_true q
  exact decide_eq_true (by omega)
 have eF0:jZ f.Facts n = f.Facts.takeWhile fun x=>decide (0 ≤ x.At ∧ x.At < (n:Int)):=rT _ _ fun i j hij hj q=>by
  have a1:=S1 h7 j i hij hj
  have a2:=of_decide_eq_true q
  have a3:=(HF (h7 i (by omega))).1
  exact decide_eq_true (by omega)
 have q3:∀ i,i < (sG f.Alters n).length→(el f.Alters i).At ≤ (n:Int):=fun i hi=>of_decide_eq_true (yR (fun x:aZ=>decide (x.At ≤ (n:Int))) f.Alters i (by rw [← eL0]; exact hi))
 have q4:∀ i,i < (jZ f.Facts n).length→0 ≤ (el f.Facts i).At ∧ (el f.Facts i).At < (n:Int):=fun i hi=>of_decide_eq_true (yR (fun x:bG=>decide (0 ≤ x.At ∧ x.At < (n:Int))) f.Facts i (by rw [← eF0]; exact hi))
 have hk:=PV f.Alters n
 have hl:=K6 f.Facts n
 have eL:f.Alters.take (sG f.Alters n).length = sG f.Alters n:=by rw [eL0]; exact tD _ _
 have eF:f.Facts.take (jZ f.Facts n).length = jZ f.Facts n:=by rw [eF0]; exact tD _ _
 generalize (sG f.Alters n).length = k at q3 hk eL
 generalize (jZ f.Facts n).length = o at q4 hl eF
 have eG:mU f d = aB.mk f.Bill (f.Signs.take n) (f.Alters.take k) (f.Acts.take m) (f.Facts.take o):=by
  unfold mU
  rw [hN,eS,eA,eL,eF]
 have n0:0 < n:=p1 0 h3 (by
  have:=(CV (h4 0 h3)).2.2 rfl
  have e:lK f 0 = f.Bill.Day:=rfl
  omega)
 have tS:(f.Signs.take n).length = n:=by simp; omega
 have tL:(f.Alters.take k).length = k:=by simp; omega
 have tA:(f.Acts.take m).length = m:=by simp; omega
 have tF:(f.Facts.take o).length = o:=by simp; omega
 rw [eG]
 refine oM.2 ⟨⟨?_,?_,?_,?_⟩,h2,?_,fun i hi=>?_,fun i hi=>?_,fun i hi=>?_,fun i hi=>?_⟩
 ·show (f.Signs.take n).length ≤ 40; omega
 ·show (f.Alters.take k).length ≤ 4; omega
 ·show (f.Acts.take m).length ≤ 100; omega
 ·show (f.Facts.take o).length ≤ 200; omega
 ·show 0 < (f.Signs.take n).length; omega
 ·have hi' : i < (f.Signs.take n).length:=hi
  rw [JJ r f _ _ _ n i (by omega)]
  exact h4 i (by omega)
 ·have hi' : i < (f.Alters.take k).length:=hi
  have a1:=q3 i (by omega)
  have q:=h5 i (by omega)
  unfold wN at q ⊢
  have e1:el (f.Alters.take k) i = el f.Alters i:=iR _ _ _ (by omega)
  have e2:el (f.Alters.take k) (i - 1) = el f.Alters (i - 1):=iR _ _ _ (by omega)
  have e3:AC (aB.mk f.Bill (f.Signs.take n) (f.Alters.take k) (f.Acts.take m) (f.Facts.take o)) i = AC f i:=by
   unfold AC
   simp only [e2]
  simp only [e1,e3,tS]
  split at q
  ·cases q
  rename_i c1
  have c1':=Decidable.not_not.1 c1
  split at q
  ·cases q
  rename_i c2
  rw [if_neg (not_not_intro ⟨c1'.1,a1⟩),if_neg c2]
 ·have hi' : i < (f.Acts.take m).length:=hi
  obtain ⟨b1,b2,b3⟩:=EY (h6 i (by omega))
  have a1:=q2 i (by omega)
  have e1:el (f.Acts.take m) i = el f.Acts i:=iR _ _ _ (by omega)
  have e2:el (f.Acts.take m) (i - 1) = el f.Acts (i - 1):=iR _ _ _ (by omega)
  have hat:(el f.Acts i).At = -1 ∨ 0 ≤ (el f.Acts i).At ∧ (el f.Acts i).At < (n:Int):=by
   rcases aC0 b1 with c | c
   ·exact .inl c
   ·right
    have s1:=(XA f (el f.Acts i)).2 (by omega)
    have s2:=(GG f i).1
    have:=p1 (el f.Acts i).At.toNat (by omega) (by omega)
    omega
  have e3:AQ (aB.mk f.Bill (f.Signs.take n) (f.Alters.take k) (f.Acts.take m) (f.Facts.take o)) i = AQ f i:=by
   unfold AQ
   simp only [e1,e2,Y4 f _ _ _ n _ hat]
  have e4:LW r (aB.mk f.Bill (f.Signs.take n) (f.Alters.take k) (f.Acts.take m) (f.Facts.take o)) (el f.Acts i) = LW r f (el f.Acts i):=by
   unfold LW
   rw [P0 f _ _ _ n hn _ hat,Z2 f _ _ _ n hn _ hat]
  rw [← h6 i (by omega)]
  unfold uX
  simp only [e1,e3,e4]
 ·have hi' : i < (f.Facts.take o).length:=hi
  have a1:=q4 i (by omega)
  have q:=h7 i (by omega)
  have e1:el (f.Facts.take o) i = el f.Facts i:=iR _ _ _ (by omega)
  have e2:el (f.Facts.take o) (i - 1) = el f.Facts (i - 1):=iR _ _ _ (by omega)
  unfold tP at q ⊢
  simp only [e1,e2,tS]
  split at q
  ·cases q
  rename_i c1
  rw [if_neg c1]
  split at q
  ·cases q
  rename_i c2
  rw [if_neg (not_not_intro ⟨a1.1,by omega⟩)]
  exact q
theorem aCQ {r:aA} {f:aB} (h:yB r f = 0):mU f 100000 = f:=by
 obtain ⟨⟨l1,l2,l3,l4⟩,h2,h3,h4,h5,h6,h7⟩:=oM.1 h
 have e1:wQ f.Signs 100000 = f.Signs:=MF _ _ fun i hi=>decide_eq_true (CV (h4 i hi)).2.1
 have e2:DX f.Acts 100000 = f.Acts:=MF _ _ fun i hi=>decide_eq_true (EY (h6 i hi)).2.2
 have e3:sG f.Alters f.Signs.length = f.Alters:=List.filter_eq_self.2 fun x hx=>by
  obtain ⟨i,hi,rfl⟩:=B3 hx
  exact decide_eq_true (HM h5 l1 i hi).2.1
 have e4:jZ f.Facts f.Signs.length = f.Facts:=List.filter_eq_self.2 fun x hx=>by
  obtain ⟨i,hi,rfl⟩:=B3 hx
  have:=(HF (h7 i hi)).1
  exact decide_eq_true (by omega)
 unfold mU
 rw [e1,e2,e3,e4]
theorem aC4 (f:aB) (a b c:Int) (hc:c ≤ a ∧ c ≤ b ∧ (c = a ∨ c = b)):mU (mU f a) b = mU f c:=by
 have e1:wQ (wQ f.Signs a) b = wQ f.Signs c:=by
  unfold wQ
  rw [HB]
  congr 1
  funext x
  rw [← Bool.decide_and]
  exact decide_eq_decide.2 (by omega)
 have e2:DX (DX f.Acts a) b = DX f.Acts c:=by
  unfold DX
  rw [HB]
  congr 1
  funext x
  rw [← Bool.decide_and]
  exact decide_eq_decide.2 (by omega)
 have hle:(wQ f.Signs c).length ≤ (wQ f.Signs a).length:=by rw [← e1]; exact I4 _ _
 have e3:sG (sG f.Alters (wQ f.Signs a).length) (wQ f.Signs c).length = sG f.Alters (wQ f.Signs c).length:=by
  unfold sG
  rw [List.filter_filter]
  congr 1
  funext x
  rw [← Bool.decide_and]
  exact decide_eq_decide.2 (by omega)
 have e4:jZ (jZ f.Facts (wQ f.Signs a).length) (wQ f.Signs c).length = jZ f.Facts (wQ f.Signs c).length:=by
  unfold jZ
  rw [List.filter_filter]
  congr 1
  funext x
  rw [← Bool.decide_and]
  exact decide_eq_decide.2 (by omega)
 show aB.mk f.Bill (wQ (wQ f.Signs a) b) (sG (sG f.Alters (wQ f.Signs a).length) (wQ (wQ f.Signs a) b).length) (DX (DX f.Acts a) b) (jZ (jZ f.Facts (wQ f.Signs a).length) (wQ (wQ f.Signs a) b).length) = _
 rw [e1,e2,e3,e4]
 rfl
theorem I0 (f:aB) (d:Int):(mU f d).Signs.length ≤ f.Signs.length ∧ (mU f d).Acts.length ≤ f.Acts.length ∧ (mU f d).Alters.length ≤ f.Alters.length ∧ (mU f d).Facts.length ≤ f.Facts.length:=⟨I4 _ _,OT _ _,PV _ _,K6 _ _⟩
end Go.Proofs.Ytfhebiceipgdmaa
