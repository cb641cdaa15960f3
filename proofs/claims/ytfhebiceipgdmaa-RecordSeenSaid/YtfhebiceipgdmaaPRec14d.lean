/- The file of a day of a right file is right. -/
import Derived.Test.YtfhebiceipgdmaaPPaper2
import Derived.Test.YtfhebiceipgdmaaPRec14c
set_option linter.unusedVariables false
set_option linter.unusedSimpArgs false
namespace Go.Proofs.Ytfhebiceipgdmaa
open Go.RowKit Vm
theorem iM {α:Type} [Inhabited α] (l:List α) (n i:Nat) (h:i < n):el (l.take n) i = el l i:=by
 unfold el
 rw [List.getD_eq_getElem?_getD,List.getD_eq_getElem?_getD,List.getElem?_take_of_lt h]
theorem I4 (S:List aO) (k:Nat) (m part:Int) (h:m.toNat < k):onB (S.take k) m part = onB S m part:=by
 unfold onB
 rw [iM _ _ _ h]
theorem N4 (S:List aO) (k i:Nat) (ks:List Int) (h:i < k):JB (S.take k) i ks = JB S i ks:=by
 unfold JB
 rw [iM _ _ _ h]
 by_cases c:0 ≤ (el S i).For ∧ (el S i).For ≤ (i:Int) - 1
 ·rw [I4 _ _ _ _ (by omega),iM _ _ _ (by omega)]
 ·rw [decide_eq_false c]; rfl
theorem K2 (r:aA) (f:aB) (al:List aZ) (ac:List bB) (fa:List bG) (k i:Nat) (h:i < k):m6 r (aB.mk f.Bill (f.Signs.take k) al ac fa) i = m6 r f i:=by
 have e1:el (f.Signs.take k) i = el f.Signs i:=iM _ _ _ h
 have e2:el (f.Signs.take k) (i - 1) = el f.Signs (i - 1):=iM _ _ _ (by omega)
 have e3:∀ p2 s p4,F1 r (aB.mk f.Bill (f.Signs.take k) al ac fa) i p2 s p4 = F1 r f i p2 s p4:=by
  intro p2 s p4
  unfold F1
  simp only [N4 _ _ _ _ h]
 have e4:∀ s,twB (f.Signs.take k) s i = twB f.Signs s i:=by
  intro s
  unfold twB
  rw [List.take_take,Nat.min_eq_left (by omega)]
 unfold m6 aAF lK
 simp only [e1,e2,e3,e4]
theorem HZ {f:aB} (h:∀ i,i < f.Alters.length→wE f i = 0) (hl:f.Signs.length ≤ 40):∀ i,i < f.Alters.length→1 ≤ (el f.Alters i).At ∧ (el f.Alters i).At ≤ f.Signs.length ∧ (0 < i→(el f.Alters (i - 1)).At < (el f.Alters i).At):=by
 intro i
 induction i with
 | zero =>
  intro hi
  have q:=h 0 hi
  unfold wE at q
  by_cases c:IntKind.wrap .i64 (zP f 0 + 1) ≤ (el f.Alters 0).At ∧ (el f.Alters 0).At ≤ (f.Signs.length:Int)
  ·have e:IntKind.wrap .i64 (zP f 0 + 1) = 1:=by
    show IntKind.wrap .i64 (0 + 1) = 1
    decide
   rw [e] at c
   exact ⟨c.1,c.2,fun z=>by omega⟩
  ·rw [if_pos c] at q; cases q
 | succ i ih =>
  intro hi
  obtain ⟨p1,p2,_⟩:=ih (by omega)
  have q:=h (i + 1) hi
  unfold wE at q
  by_cases c:IntKind.wrap .i64 (zP f (i + 1) + 1) ≤ (el f.Alters (i + 1)).At ∧ (el f.Alters (i + 1)).At ≤ (f.Signs.length:Int)
  ·have e:zP f (i + 1) = (el f.Alters i).At:=by unfold zP; rw [if_neg (by omega)]; rfl
   rw [e,nS (by omega) (by omega)] at c
   exact ⟨by omega,c.2,fun _=>by show (el f.Alters i).At < _; omega⟩
  ·rw [if_pos c] at q; cases q
theorem aC9 {r:aA} {b:bD} (bg:IG r) (w:aA.wf r) (h:CF r b = 0):0 ≤ b.Day ∧ b.Day ≤ 100000:=by
 apply Classical.byContradiction
 intro hn
 have h3:∃ e,e ≠ 0 ∧ hY r b = some (.inr e):=by
  refine ⟨3,by decide,?_⟩
  unfold hY
  by_cases c1:b.Sum < 1
  ·rw [if_pos (decide_eq_true c1)]
  rw [if_neg (fun q=>c1 (of_decide_eq_true q))]
  by_cases c2:b.Sum > 1099511627776
  ·rw [if_pos (decide_eq_true c2)]
  rw [if_neg (fun q=>c2 (of_decide_eq_true q))]
  by_cases c3:b.Day < 0
  ·rw [if_pos (decide_eq_true c3)]
  rw [if_neg (fun q=>c3 (of_decide_eq_true q)),if_pos (decide_eq_true (by omega))]
 obtain ⟨e3,n3,h3⟩:=h3
 have h4:∀ p,∃ e,e ≠ 0 ∧ cV r b p = some e:=by
  intro p
  unfold cV
  simp only [h3,CX,Option.bind_some,Sum.elim_inr]
  (repeat' split) <;> first | exact ⟨_,n3,rfl⟩ | exact ⟨_,by decide,rfl⟩
 obtain ⟨g,hg⟩:=Classical.axiomOfChoice h4
 have hgn:∀ p,g p ≠ 0:=fun p=>(hg p).1
 have hge:∀ p,cV r b p = some (g p):=fun p=>(hg p).2
 have h5:∃ e,e ≠ 0 ∧ gB r b = some e:=by
  unfold gB
  simp only [MZ r bg w,CX,hge,Option.bind_some]
  by_cases c:NT r = 0
  ·rw [if_neg (by simpa using c)]
   (repeat' split) <;> exact ⟨_,hgn _,rfl⟩
  ·rw [if_pos (by simpa using c)]
   exact ⟨_,c,rfl⟩
 obtain ⟨e,n5,h5⟩:=h5
 rw [VS r b bg w] at h5
 exact n5 (by rw [← Option.some.inj h5]; exact h)
theorem yW {α:Type} [Inhabited α] (p:α→Bool):∀ (l:List α) (i:Nat),i < (l.takeWhile p).length→p (el l i) = true
 | [],i,h=>by simp at h
 | x :: l,i,h=>by
  cases hp:p x with
  | false=>simp [List.takeWhile,hp] at h
  | true =>
   simp only [List.takeWhile,hp,List.length_cons] at h
   cases i with
   | zero=>exact hp
   | succ i=>exact yW p l i (by omega)
theorem A6 {α:Type} [Inhabited α] (p:α→Bool):∀ (l:List α),(l.takeWhile p).length < l.length→p (el l (l.takeWhile p).length) = false
 | [],h=>by simp at h
 | x :: l,h=>by
  cases hp:p x with
  | false=>simp only [List.takeWhile,hp]; exact hp
  | true =>
   simp only [List.takeWhile,hp,List.length_cons] at h ⊢
   exact A6 p l (by omega)
theorem rS {α:Type} [Inhabited α] (p:α→Bool):∀ (l:List α),(∀ i j,i ≤ j→j < l.length→p (el l j) = true→p (el l i) = true)→l.filter p = l.takeWhile p
 | [],_=>rfl
 | x :: l,h=>by
  cases hp:p x with
  | false =>
   have hn:∀ y ∈ l,¬ p y = true:=by
    intro y hy hq
    obtain ⟨j,hj,rfl⟩:=B4 hy
    have:p x = true:=h 0 (j + 1) (by omega) (by simp; omega) hq
    rw [hp] at this; cases this
   rw [List.filter_cons_of_neg (by simp [hp]),List.filter_eq_nil_iff.2 hn]
   simp [List.takeWhile,hp]
  | true =>
   rw [List.filter_cons_of_pos hp,rS p l (fun i j hij hj hq=>h (i + 1) (j + 1) (by omega) (by simp; omega) hq)]
   simp [List.takeWhile,hp]
theorem MN {α:Type} [Inhabited α] (p:α→Bool) (l:List α) (h:∀ i,i < l.length→p (el l i) = true):l.takeWhile p = l:=by
 rw [vO p l l.length (Nat.le_refl _) h (fun q=>absurd q (by omega)),List.take_length]
theorem G9 {α:Type} (p q:α→Bool):∀ l:List α,(l.takeWhile p).takeWhile q = l.takeWhile fun x=>p x && q x
 | []=>rfl
 | x :: l=>by
  cases hp:p x <;> cases hq:q x <;> simp [List.takeWhile,hp,hq,G9 p q l]
theorem CN {r:aA} {f:aB} {i:Nat} (h:m6 r f i = 0):lK f i ≤ (el f.Signs i).Day ∧ (el f.Signs i).Day ≤ 100000 ∧ (i = 0→(el f.Signs i).Day = lK f i):=by
 unfold m6 at h
 split at h
 ·cases h
 split at h
 ·cases h
 split at h
 ·cases h
 split at h
 ·cases h
 rename_i c4
 split at h
 ·cases h
 rename_i c5
 have c4':=Decidable.not_not.1 c4
 exact ⟨c4'.1,c4'.2,fun e=>Classical.byContradiction fun q=>c5 ⟨e,q⟩⟩
theorem GB {r:aA} {f:aB} (h:∀ i,i < f.Signs.length→m6 r f i = 0):∀ i j,j ≤ i→i < f.Signs.length→(el f.Signs j).Day ≤ (el f.Signs i).Day:=by
 intro i
 induction i with
 | zero =>
  intro j hj _
  obtain rfl:j = 0:=by omega
  exact Int.le_refl _
 | succ i ih =>
  intro j hj hi
  by_cases e:j = i + 1
  ·rw [e]; exact Int.le_refl _
  ·have h1:=ih j (by omega) (by omega)
   have h2:=(CN (h (i + 1) hi)).1
   have e2:lK f (i + 1) = (el f.Signs i).Day:=by unfold lK; rw [if_neg (by omega)]; rfl
   rw [e2] at h2
   omega
theorem E5 {r:aA} {f:aB} {i:Nat} (h:uY r f i = 0):LM r f (el f.Acts i) = true ∧ AP f i ≤ (el f.Acts i).Day ∧ (el f.Acts i).Day ≤ 100000:=by
 unfold uY at h
 split at h
 ·cases h
 split at h
 ·cases h
 split at h
 ·cases h
 split at h
 ·cases h
 rename_i c4
 split at h
 ·cases h
 rename_i c5
 have c5':=Decidable.not_not.1 c5
 exact ⟨by simpa using c4,c5'.1,c5'.2⟩
theorem F4 (f:aB) (i:Nat):KS f (el f.Acts i) ≤ AP f i ∧ (0 < i→(el f.Acts (i - 1)).Day ≤ AP f i):=by
 unfold AP
 split
 ·split
  ·exact ⟨by omega,fun _=>Int.le_refl _⟩
  ·exact ⟨Int.le_refl _,fun _=>by omega⟩
 ·exact ⟨Int.le_refl _,fun q=>by omega⟩
theorem WR (f:aB) (a:bB):f.Bill.Day ≤ KS f a ∧ (a.At ≠ -1→(el f.Signs a.At.toNat).Day ≤ KS f a):=by
 unfold KS
 split
 ·split
  ·exact ⟨by omega,fun _=>Int.le_refl _⟩
  ·exact ⟨Int.le_refl _,fun _=>by omega⟩
 ·rename_i q
  exact ⟨Int.le_refl _,fun z=>absurd z q⟩
theorem MJ {r:aA} {f:aB} (h:∀ i,i < f.Acts.length→uY r f i = 0):∀ i j,j ≤ i→i < f.Acts.length→(el f.Acts j).Day ≤ (el f.Acts i).Day:=by
 intro i
 induction i with
 | zero =>
  intro j hj _
  obtain rfl:j = 0:=by omega
  exact Int.le_refl _
 | succ i ih =>
  intro j hj hi
  by_cases e:j = i + 1
  ·rw [e]; exact Int.le_refl _
  ·have h1:=ih j (by omega) (by omega)
   have h2:=(E5 (h (i + 1) hi)).2.1
   have h3:=(F4 f (i + 1)).2 (by omega)
   simp only [Nat.add_sub_cancel] at h3
   omega
theorem aAf {α:Type} [Inhabited α] (day:α→Int) (l:List α) (d:Int) (hm:∀ i j,j ≤ i→i < l.length→day (el l j) ≤ day (el l i)) (i:Nat) (hi:i < l.length) (h:day (el l i) ≤ d):i < (l.takeWhile fun x=>decide (day x ≤ d)).length:=by
 apply Classical.byContradiction
 intro hn
 have h1:=A6 (fun x=>decide (day x ≤ d)) l (by omega)
 have h2:=hm i _ (show (l.takeWhile fun x=>decide (day x ≤ d)).length ≤ i by omega) hi
 have h3:=of_decide_eq_false h1
 omega
theorem aAS {f:aB} (h:∀ i,i < f.Alters.length→wE f i = 0) (hl:f.Signs.length ≤ 40):∀ i j,j ≤ i→i < f.Alters.length→(el f.Alters j).At ≤ (el f.Alters i).At:=by
 intro i
 induction i with
 | zero =>
  intro j hj _
  obtain rfl:j = 0:=by omega
  exact Int.le_refl _
 | succ i ih =>
  intro j hj hi
  by_cases e:j = i + 1
  ·rw [e]; exact Int.le_refl _
  ·have h1:=ih j (by omega) (by omega)
   have h2:=(HZ h hl (i + 1) hi).2.2 (by omega)
   simp only [Nat.add_sub_cancel] at h2
   omega
theorem GS {f:aB} {i:Nat} (h:tX f i = 0):(0 ≤ (el f.Facts i).At ∧ (el f.Facts i).At ≤ (f.Signs.length:Int) - 1) ∧ (0 < i→(el f.Facts (i - 1)).At ≤ (el f.Facts i).At):=by
 unfold tX at h
 split at h
 ·cases h
 split at h
 ·cases h
 rename_i c2
 split at h
 ·cases h
 split at h
 ·rename_i e; exact ⟨Decidable.not_not.1 c2,fun q=>by omega⟩
 split at h
 ·rename_i c; exact ⟨Decidable.not_not.1 c2,fun _=>by omega⟩
 ·cases h
theorem SA {f:aB} (h:∀ i,i < f.Facts.length→tX f i = 0):∀ i j,j ≤ i→i < f.Facts.length→(el f.Facts j).At ≤ (el f.Facts i).At:=by
 intro i
 induction i with
 | zero =>
  intro j hj _
  obtain rfl:j = 0:=by omega
  exact Int.le_refl _
 | succ i ih =>
  intro j hj hi
  by_cases e:j = i + 1
  ·rw [e]; exact Int.le_refl _
  ·have h1:=ih j (by omega) (by omega)
   have h2:=(GS (h (i + 1) hi)).2 (by omega)
   simp only [Nat.add_sub_cancel] at h2
   omega
theorem Q2 (f:aB) (L:List aZ) (A:List bB) (F:List bG) (n:Nat) (hn:n ≤ f.Signs.length) (a:bB) (h:a.At = -1 ∨ 0 ≤ a.At ∧ a.At < n):UU (aB.mk f.Bill (f.Signs.take n) L A F) a = UU f a:=by
 unfold UU
 have e:(f.Signs.take n).length = n:=by simp; omega
 simp only [e]
 rcases h with h | h
 ·rw [decide_eq_false (by omega),decide_eq_false (by omega)]; rfl
 ·rw [I4 _ _ _ _ (by omega),decide_eq_true (by omega),decide_eq_true (by omega)]
theorem XL (f:aB) (L:List aZ) (A:List bB) (F:List bG) (n:Nat) (hn:n ≤ f.Signs.length) (a:bB) (h:a.At = -1 ∨ 0 ≤ a.At ∧ a.At < n):LS (aB.mk f.Bill (f.Signs.take n) L A F) a = LS f a:=by
 unfold LS
 rw [Q2 f L A F n hn a h]
 rcases h with h | h
 ·have:UU f a = false:=by unfold UU; rw [decide_eq_false (by omega)]; rfl
  rw [this]; rfl
 ·show (UU f a && (el (f.Signs.take n) a.At.toNat).Who == a.Who) = _
  rw [iM _ _ _ (by omega)]
theorem ZB (f:aB) (L:List aZ) (A:List bB) (F:List bG) (n:Nat) (a:bB) (h:a.At = -1 ∨ 0 ≤ a.At ∧ a.At < n):KS (aB.mk f.Bill (f.Signs.take n) L A F) a = KS f a:=by
 unfold KS
 rcases h with h | h
 ·rw [if_neg (not_not_intro h),if_neg (not_not_intro h)]
 ·show (if a.At ≠ -1 then (if (el (f.Signs.take n) a.At.toNat).Day > f.Bill.Day then (el (f.Signs.take n) a.At.toNat).Day else f.Bill.Day) else f.Bill.Day) = _
  rw [iM _ _ _ (by omega)]
theorem aCo {r:aA} {f:aB} (h:yK r f = 0) (d:Int) (hd:f.Bill.Day ≤ d):yK r (mV f d) = 0:=by
 obtain ⟨⟨l1,l2,l3,l4⟩,h2,h3,h4,h5,h6,h7⟩:=oU.1 h
 have hn:=KV f.Signs d
 have hm:=OT f.Acts d
 have eS:f.Signs.take (wU f.Signs d).length = wU f.Signs d:=tE _ _
 have eA:f.Acts.take (DV f.Acts d).length = DV f.Acts d:=tE _ _
 have p1:∀ i,i < f.Signs.length→(el f.Signs i).Day ≤ d→i < (wU f.Signs d).length:=fun i hi q=>aAf aO.Day f.Signs d (GB h4) i hi q
 have q2:∀ i,i < (DV f.Acts d).length→(el f.Acts i).Day ≤ d:=fun i hi=>of_decide_eq_true (yW (fun x:bB=>decide (x.Day ≤ d)) f.Acts i hi)
 generalize hN:(wU f.Signs d).length = n at *
 generalize hM:(DV f.Acts d).length = m at *
 have eL0:sN f.Alters n = f.Alters.takeWhile fun x=>decide (x.At ≤ (n:Int)):=rS _ _ fun i j hij hj q=>by
  have:=aAS h5 l1 j i hij hj
  have:=of_decide_eq_true q
  exact decide_eq_true (by omega)
 have eF0:j8 f.Facts n = f.Facts.takeWhile fun x=>decide (0 ≤ x.At ∧ x.At < (n:Int)):=rS _ _ fun i j hij hj q=>by
  have a1:=SA h7 j i hij hj
  have a2:=of_decide_eq_true q
  have a3:=(GS (h7 i (by omega))).1
  exact decide_eq_true (by omega)
 have q3:∀ i,i < (sN f.Alters n).length→(el f.Alters i).At ≤ (n:Int):=fun i hi=>of_decide_eq_true (yW (fun x:aZ=>decide (x.At ≤ (n:Int))) f.Alters i (by rw [← eL0]; exact hi))
 have q4:∀ i,i < (j8 f.Facts n).length→0 ≤ (el f.Facts i).At ∧ (el f.Facts i).At < (n:Int):=fun i hi=>of_decide_eq_true (yW (fun x:bG=>decide (0 ≤ x.At ∧ x.At < (n:Int))) f.Facts i (by rw [← eF0]; exact hi))
 have hk:=O3 f.Alters n
 have hl:=I9 f.Facts n
 have eL:f.Alters.take (sN f.Alters n).length = sN f.Alters n:=by rw [eL0]; exact tE _ _
 have eF:f.Facts.take (j8 f.Facts n).length = j8 f.Facts n:=by rw [eF0]; exact tE _ _
 generalize (sN f.Alters n).length = k at q3 hk eL
 generalize (j8 f.Facts n).length = o at q4 hl eF
 have eG:mV f d = aB.mk f.Bill (f.Signs.take n) (f.Alters.take k) (f.Acts.take m) (f.Facts.take o):=by
  unfold mV
  rw [hN,eS,eA,eL,eF]
 have n0:0 < n:=p1 0 h3 (by
  have:=(CN (h4 0 h3)).2.2 rfl
  have e:lK f 0 = f.Bill.Day:=rfl
  omega)
 have tS:(f.Signs.take n).length = n:=by simp; omega
 have tL:(f.Alters.take k).length = k:=by simp; omega
 have tA:(f.Acts.take m).length = m:=by simp; omega
 have tF:(f.Facts.take o).length = o:=by simp; omega
 rw [eG]
 refine oU.2 ⟨⟨?_,?_,?_,?_⟩,h2,?_,fun i hi=>?_,fun i hi=>?_,fun i hi=>?_,fun i hi=>?_⟩
 ·show (f.Signs.take n).length ≤ 40; omega
 ·show (f.Alters.take k).length ≤ 4; omega
 ·show (f.Acts.take m).length ≤ 100; omega
 ·show (f.Facts.take o).length ≤ 200; omega
 ·show 0 < (f.Signs.take n).length; omega
 ·have hi' : i < (f.Signs.take n).length:=hi
  rw [K2 r f _ _ _ n i (by omega)]
  exact h4 i (by omega)
 ·have hi' : i < (f.Alters.take k).length:=hi
  have a1:=q3 i (by omega)
  have q:=h5 i (by omega)
  unfold wE at q ⊢
  have e1:el (f.Alters.take k) i = el f.Alters i:=iM _ _ _ (by omega)
  have e2:el (f.Alters.take k) (i - 1) = el f.Alters (i - 1):=iM _ _ _ (by omega)
  have e3:zP (aB.mk f.Bill (f.Signs.take n) (f.Alters.take k) (f.Acts.take m) (f.Facts.take o)) i = zP f i:=by
   unfold zP
   simp only [e2]
  simp only [e1,e3,tS]
  split at q
  ·cases q
  rename_i c1
  have c1':=Decidable.not_not.1 c1
  split at q
  ·cases q
  rename_i c2
  rw [if_neg (not_not_intro ⟨c1'.1,a1⟩),if_neg c2]
 ·have hi' : i < (f.Acts.take m).length:=hi
  obtain ⟨b1,b2,b3⟩:=E5 (h6 i (by omega))
  have a1:=q2 i (by omega)
  have e1:el (f.Acts.take m) i = el f.Acts i:=iM _ _ _ (by omega)
  have e2:el (f.Acts.take m) (i - 1) = el f.Acts (i - 1):=iM _ _ _ (by omega)
  have hat:(el f.Acts i).At = -1 ∨ 0 ≤ (el f.Acts i).At ∧ (el f.Acts i).At < (n:Int):=by
   rcases aDQ b1 with c | c
   ·exact .inl c
   ·right
    have s1:=(WR f (el f.Acts i)).2 (by omega)
    have s2:=(F4 f i).1
    have:=p1 (el f.Acts i).At.toNat (by omega) (by omega)
    omega
  have e3:AP (aB.mk f.Bill (f.Signs.take n) (f.Alters.take k) (f.Acts.take m) (f.Facts.take o)) i = AP f i:=by
   unfold AP
   simp only [e1,e2,ZB f _ _ _ n _ hat]
  have e4:LM r (aB.mk f.Bill (f.Signs.take n) (f.Alters.take k) (f.Acts.take m) (f.Facts.take o)) (el f.Acts i) = LM r f (el f.Acts i):=by
   unfold LM
   rw [Q2 f _ _ _ n hn _ hat,XL f _ _ _ n hn _ hat]
  rw [← h6 i (by omega)]
  unfold uY
  simp only [e1,e3,e4]
 ·have hi' : i < (f.Facts.take o).length:=hi
  have a1:=q4 i (by omega)
  have q:=h7 i (by omega)
  have e1:el (f.Facts.take o) i = el f.Facts i:=iM _ _ _ (by omega)
  have e2:el (f.Facts.take o) (i - 1) = el f.Facts (i - 1):=iM _ _ _ (by omega)
  unfold tX at q ⊢
  simp only [e1,e2,tS]
  split at q
  ·cases q
  rename_i c1
  rw [if_neg c1]
  split at q
  ·cases q
  rename_i c2
  rw [if_neg (not_not_intro ⟨a1.1,by omega⟩)]
  exact q
theorem aC3 {r:aA} {f:aB} (h:yK r f = 0):mV f 100000 = f:=by
 obtain ⟨⟨l1,l2,l3,l4⟩,h2,h3,h4,h5,h6,h7⟩:=oU.1 h
 have e1:wU f.Signs 100000 = f.Signs:=MN _ _ fun i hi=>decide_eq_true (CN (h4 i hi)).2.1
 have e2:DV f.Acts 100000 = f.Acts:=MN _ _ fun i hi=>decide_eq_true (E5 (h6 i hi)).2.2
 have e3:sN f.Alters f.Signs.length = f.Alters:=List.filter_eq_self.2 fun x hx=>by
  obtain ⟨i,hi,rfl⟩:=B4 hx
  exact decide_eq_true (HZ h5 l1 i hi).2.1
 have e4:j8 f.Facts f.Signs.length = f.Facts:=List.filter_eq_self.2 fun x hx=>by
  obtain ⟨i,hi,rfl⟩:=B4 hx
  have:=(GS (h7 i hi)).1
  exact decide_eq_true (by omega)
 unfold mV
 rw [e1,e2,e3,e4]
theorem aDi (f:aB) (a b c:Int) (hc:c ≤ a ∧ c ≤ b ∧ (c = a ∨ c = b)):mV (mV f a) b = mV f c:=by
 have e1:wU (wU f.Signs a) b = wU f.Signs c:=by
  unfold wU
  rw [G9]
  congr 1
  funext x
  rw [← Bool.decide_and]
  exact decide_eq_decide.2 (by omega)
 have e2:DV (DV f.Acts a) b = DV f.Acts c:=by
  unfold DV
  rw [G9]
  congr 1
  funext x
  rw [← Bool.decide_and]
  exact decide_eq_decide.2 (by omega)
 have hle:(wU f.Signs c).length ≤ (wU f.Signs a).length:=by rw [← e1]; exact KV _ _
 have e3:sN (sN f.Alters (wU f.Signs a).length) (wU f.Signs c).length = sN f.Alters (wU f.Signs c).length:=by
  unfold sN
  rw [List.filter_filter]
  congr 1
  funext x
  rw [← Bool.decide_and]
  exact decide_eq_decide.2 (by omega)
 have e4:j8 (j8 f.Facts (wU f.Signs a).length) (wU f.Signs c).length = j8 f.Facts (wU f.Signs c).length:=by
  unfold j8
  rw [List.filter_filter]
  congr 1
  funext x
  rw [← Bool.decide_and]
  exact decide_eq_decide.2 (by omega)
 show aB.mk f.Bill (wU (wU f.Signs a) b) (sN (sN f.Alters (wU f.Signs a).length) (wU (wU f.Signs a) b).length) (DV (DV f.Acts a) b) (j8 (j8 f.Facts (wU f.Signs a).length) (wU (wU f.Signs a) b).length) = _
 rw [e1,e2,e3,e4]
 rfl
theorem I0 (f:aB) (d:Int):(mV f d).Signs.length ≤ f.Signs.length ∧ (mV f d).Acts.length ≤ f.Acts.length ∧ (mV f d).Alters.length ≤ f.Alters.length ∧ (mV f d).Facts.length ≤ f.Facts.length:=⟨KV _ _,OT _ _,O3 _ _,I9 _ _⟩
end Go.Proofs.Ytfhebiceipgdmaa
