/- The laws of layer 12 (paper): the reference's Check, and PaperPuts, PaperTells. -/
import Derived.Test.YtfhebiceipgdmaaPRef12b
set_option linter.unusedVariables false
set_option linter.unusedSimpArgs false
namespace Go.Proofs.Ytfhebiceipgdmaa
open Go.RowKit Vm
theorem HF {step:Int × Int→Option ((Int × Int) ⊕ Int)} (n:Nat) (g:Nat→Int) (h:∀ i,i < n→(∀ j,j < i→g j = 0)→step (0,(i:Int)) = some (.inl (g i,((i + 1:Nat):Int)))) (he:step (0,(n:Int)) = some (.inr 0))
  (hn:∀ e i,e ≠ 0→step (e,i) = some (.inr e)) (p:Int):fA step (p,0) = some (HH p (vJ g n)):=by
 unfold HH
 by_cases hp:p = 0
 ·subst hp
  rw [if_pos rfl]
  have key:∀ (m k:Nat),k + m = n→(∀ j,j < k→g j = 0)→fA step (0,(k:Int)) = some ((iT (fun i=>if g i = 0 then none else some (g i)) k m).getD 0):=by
   intro m
   induction m with
   | zero=>intro k hk _; obtain rfl:k = n:=(by omega); exact rT he
   | succ m ih =>
    intro k hk hb
    rw [D1 (h k (by omega) hb)]
    simp only [iT]
    by_cases c:g k = 0
    ·rw [if_pos c,c]
     exact ih (k + 1) (by omega) fun j hj=>by
      by_cases e:j = k
      ·rw [e]; exact c
      ·exact hb j (by omega)
    ·rw [if_neg c,rT (hn _ _ c)]; rfl
  exact key n 0 (by omega) fun j hj=>by omega
 ·rw [if_neg hp]
  exact rT (hn _ _ hp)
theorem aBU (a b c:Int):HH (HH a b) c = HH a (HH b c):=by
 unfold HH
 by_cases h:a = 0
 ·rw [if_pos h,if_pos h]
 ·rw [if_neg h,if_neg h,if_neg h]
theorem S2 {a b:Int} (h:a ≠ 0):HH a b = a:=if_neg h
theorem aHk (b:Int):HH 0 b = b:=if_pos rfl
theorem XS (r:aA) (f:aB) (hl:f.Alters.length < 1000) (p:Int):jU r f p 0 = some (HH p (vJ (CC f) f.Alters.length)):=by
 unfold jU
 refine HF (step:=fun w=>dO r f w.1 w.2) f.Alters.length (CC f) ?_ ?_ ?_ p
 ·intro k hk _
  have j2:gI r f 0 k (IntKind.wrap .i64 (II f k + 1)) = some (CC f k):=by
   unfold gI CC
   simp only [cY _ _ hk,Option.bind_some,A2]
   by_cases c1:IntKind.wrap .i64 (II f k + 1) ≤ (el f.Alters k).At ∧ (el f.Alters k).At ≤ (f.Signs.length:Int)
   ·rw [decide_eq_true c1,if_neg (not_not_intro c1)]
    by_cases c2:1 ≤ (el f.Alters k).Sum ∧ (el f.Alters k).Sum ≤ 1099511627776
    ·rw [decide_eq_true c2,if_neg (not_not_intro c2)]; rfl
    ·rw [decide_eq_false c2,if_pos c2]; rfl
   ·rw [decide_eq_false c1,if_pos c1]; rfl
  simp only [dO,i8 hk,if_true,b9 (show k < 9223372036854775807 by omega),beq_self_eq_true]
  by_cases c:k = 0
  ·subst c
   rw [if_neg (by decide)]
   have e:II f 0 = 0:=rfl
   rw [e,show IntKind.wrap .i64 (0 + 1) = 1 from by decide] at j2
   rw [show ((0:Nat):Int) = 0 from rfl] at j2 ⊢
   rw [j2]; rfl
  ·have e:IntKind.wrap .i64 ((k:Int) - 1) = ((k - 1:Nat):Int):=by rw [dG (by omega) (by omega)]; omega
   have e2:II f k = (el f.Alters (k - 1)).At:=by unfold II; rw [if_neg c]
   rw [if_pos (decide_eq_true (show (k:Int) > 0 by omega)),e,cY f.Alters (k - 1) (by omega),Option.bind_some,← e2,j2]; rfl
 ·simp only [dO,kH,if_false]
 ·intro e i he
  simp only [dO]
  split
  ·rw [if_neg (by simpa using he)]
  ·rfl
theorem WM (r:aA) (f:aB) (a:bP) (hl:f.Signs.length ≤ 50) (bg:wT r) (hk:0 ≤ a.Kind ∧ a.Kind ≤ 9):kE r f a = some (RN r f a):=by
 have hf:=bg.frm
 have j3:∀ at0 tt sm own,sm = decide (0 ≤ a.Sum ∧ a.Sum ≤ 1099511627776)→gH a at0 tt sm own = some ((a.Kind == 4 || a.Form == 0) && KI a at0 own tt):=by
  intro at0 tt sm own hsm
  unfold gH gL i6 KI
  have hpos:decide (1 ≤ a.Sum ∧ a.Sum ≤ 1099511627776) = (sm && decide (a.Sum > 0)):=by
   rw [hsm,Bool.eq_iff_iff]; simp; omega
  have hform:decide (0 ≤ a.Form ∧ a.Form ≤ 1) = (a.Form == 0 || a.Form == 1):=by
   rw [Bool.eq_iff_iff]; simp; omega
  rw [hpos,hform,← hsm]
  generalize decide (a.Sum > 0) = b0
  generalize (a.At == -1) = b1
  generalize (a.Sum == 0) = b2
  generalize (a.Form == 0) = b3
  generalize (a.Form == 1) = b4
  generalize (a.To == -1) = b5
  have hq:a.Kind = 0 ∨ a.Kind = 1 ∨ a.Kind = 2 ∨ a.Kind = 3 ∨ a.Kind = 4 ∨ a.Kind = 5 ∨ a.Kind = 6 ∨ a.Kind = 7 ∨ a.Kind = 8 ∨ a.Kind = 9:=by omega
  clear hsm hpos hform
  rcases hq with k | k | k | k | k | k | k | k | k | k <;> rw [k]
  ·cases tt <;> cases b1 <;> cases b2 <;> cases b3 <;> rfl
  ·cases tt <;> cases b1 <;> cases b2 <;> cases b3 <;> rfl
  ·cases tt <;> cases b1 <;> cases b2 <;> cases b3 <;> rfl
  ·cases tt <;> cases b1 <;> cases sm <;> cases b3 <;> rfl
  ·cases tt <;> cases b1 <;> cases sm <;> cases b3 <;> rfl
  ·cases tt <;> cases b1 <;> cases sm <;> cases b3 <;> rfl
  ·cases tt <;> cases own <;> cases sm <;> cases b0 <;> cases b3 <;> rfl
  ·cases b5 <;> cases at0 <;> cases b2 <;> cases b3 <;> rfl
  ·cases b5 <;> cases at0 <;> cases b2 <;> cases b3 <;> rfl
  ·cases b5 <;> cases own <;> cases b2 <;> cases b3 <;> rfl
 unfold kE RN
 simp only [A2,Option.bind_some]
 rw [dG (show -9223372036854775808 ≤ (r.Firms.length:Int) - 1 by omega) (by omega),dG (show -9223372036854775808 ≤ (f.Signs.length:Int) - 1 by omega) (by omega)]
 by_cases c0:0 ≤ a.Who ∧ a.Who ≤ (r.Firms.length:Int) - 1
 ·rw [decide_eq_true c0,if_neg (by decide),Bool.true_and]
  have j4:gM f a (decide (0 ≤ a.To ∧ a.To ≤ (r.Firms.length:Int) - 1)) (decide (0 ≤ a.Sum ∧ a.Sum ≤ 1099511627776)) (S7 f a) = some ((a.Kind == 4 || a.Form == 0) && KI a (S7 f a) (SE f a) (decide (0 ≤ a.To ∧ a.To ≤ (r.Firms.length:Int) - 1))):=by
   unfold gM
   simp only [j3 _ _ _ _ rfl,Option.bind_some]
   unfold SE
   cases h:S7 f a with
   | false=>rfl
   | true =>
    have hin:0 ≤ a.At ∧ a.At ≤ (f.Signs.length:Int) - 1:=by
     unfold S7 at h
     rw [Bool.and_eq_true,decide_eq_true_eq] at h
     exact h.1
    rw [JX _ _ hin.1 (by omega)]; rfl
  by_cases c:0 ≤ a.At ∧ a.At ≤ (f.Signs.length:Int) - 1
  ·have h1:S7 f a = SU f.Signs a.At a.Part:=by unfold S7; rw [decide_eq_true c,Bool.true_and]
   rw [decide_eq_true c,if_pos rfl,RO f _ _ (.inr ⟨c.1,by omega⟩),Option.bind_some,← h1,j4]; rfl
  ·have h1:S7 f a = false:=by unfold S7; rw [decide_eq_false c,Bool.false_and]
   rw [decide_eq_false c,if_neg (by decide)]
   rw [h1] at j4 ⊢
   rw [j4]; rfl
 ·rw [decide_eq_false c0,if_pos (show (!false) = true from rfl),Bool.false_and]
theorem RY (r:aA) (f:aB) (i:Nat) (hi:i < f.Acts.length) (hl:f.Signs.length ≤ 50) (ha:f.Acts.length < 1000) (bg:wT r):lD r f i = some (AV r f i):=by
 have hc:=bg.cit
 unfold lD k7 AV
 simp only [cY _ _ hi,Option.bind_some,A2]
 rw [dG (show -9223372036854775808 ≤ (r.Cities.length:Int) - 1 by omega) (by omega)]
 show (if (!decide (0 ≤ (el f.Acts i).Part ∧ (el f.Acts i).Part ≤ hiP f.Bill)) = true then _ else _) = _
 by_cases c1:0 ≤ (el f.Acts i).Part ∧ (el f.Acts i).Part ≤ hiP f.Bill
 ·rw [decide_eq_true c1,if_neg (by decide),if_neg (not_not_intro c1)]
  by_cases c2:0 ≤ (el f.Acts i).City ∧ (el f.Acts i).City ≤ (r.Cities.length:Int) - 1
  ·rw [decide_eq_true c2,if_neg (by decide),if_neg (not_not_intro c2)]
   by_cases c3:0 ≤ (el f.Acts i).Kind ∧ (el f.Acts i).Kind ≤ 9
   ·rw [decide_eq_true c3,if_neg (by decide),if_neg (not_not_intro c3),WM r f _ hl bg c3,Option.bind_some]
    cases c4:RN r f (el f.Acts i) with
    | false=>rfl
    | true =>
     rw [if_neg (show ¬ ((!true) = true) by decide),if_neg (show ¬ (true = false) by decide)]
     have hat:=aCx c4
     unfold WX aE4
     have e:0 < i→IntKind.wrap .i64 ((i:Int) - 1) = ((i - 1:Nat):Int):=fun q=>by rw [dG (by omega) (by omega)]; omega
     by_cases h0:0 < i
     ·rw [e h0,cY f.Acts (i - 1) (by omega),decide_eq_true (show (i:Int) > 0 by omega),if_pos h0]
      by_cases h1:(el f.Acts i).At = -1
      ·rw [if_neg (not_not_intro h1),decide_eq_false (show ¬ (el f.Acts i).At ≥ 0 by omega)]
       simp only [Option.bind_some,decide_eq_true_eq,Bool.false_eq_true,if_false,if_true]
       generalize (el f.Acts i).Day = d
       generalize (el f.Acts (i - 1)).Day = d1
       generalize f.Bill.Day = d0
       by_cases z1:d < d0
       ·rw [if_pos z1,if_pos (by split <;> omega)]
       by_cases z2:d > 100000
       ·rw [if_neg z1,if_pos z2,if_pos (by split <;> omega)]
       by_cases z3:d < d1
       ·rw [if_neg z1,if_neg z2,if_pos z3,if_pos (by split <;> omega)]; rfl
       ·rw [if_neg z1,if_neg z2,if_neg z3,if_neg (by split <;> omega)]; rfl
      ·have h2:=hat.resolve_left h1
       rw [if_pos h1,decide_eq_true (show (el f.Acts i).At ≥ 0 by omega),JX f.Signs _ h2.1 h2.2]
       simp only [Option.bind_some,decide_eq_true_eq,if_true]
       generalize (el f.Acts i).Day = d
       generalize (el f.Acts (i - 1)).Day = d1
       generalize (el f.Signs (el f.Acts i).At.toNat).Day = d2
       generalize f.Bill.Day = d0
       by_cases z1:d < d0
       ·rw [if_pos z1,if_pos (by (repeat' split) <;> omega)]
       by_cases z2:d > 100000
       ·rw [if_neg z1,if_pos z2,if_pos (by (repeat' split) <;> omega)]
       by_cases z4:d < d2
       ·rw [if_neg z1,if_neg z2,if_pos z4,if_pos (by (repeat' split) <;> omega)]
       by_cases z3:d < d1
       ·rw [if_neg z1,if_neg z2,if_neg z4,if_pos z3,if_pos (by (repeat' split) <;> omega)]; rfl
       ·rw [if_neg z1,if_neg z2,if_neg z4,if_neg z3,if_neg (by (repeat' split) <;> omega)]; rfl
     ·rw [decide_eq_false (show ¬ (i:Int) > 0 by omega),if_neg h0]
      by_cases h1:(el f.Acts i).At = -1
      ·rw [if_neg (not_not_intro h1),decide_eq_false (show ¬ (el f.Acts i).At ≥ 0 by omega)]
       simp only [Option.bind_some,decide_eq_true_eq,Bool.false_eq_true,if_false,if_true]
       generalize (el f.Acts i).Day = d
       generalize f.Bill.Day = d0
       by_cases z1:d < d0
       ·rw [if_pos z1,if_pos (by omega)]
       by_cases z2:d > 100000
       ·rw [if_neg z1,if_pos z2,if_pos (by omega)]
       ·rw [if_neg z1,if_neg z2,if_neg (by omega)]
      ·have h2:=hat.resolve_left h1
       rw [if_pos h1,decide_eq_true (show (el f.Acts i).At ≥ 0 by omega),JX f.Signs _ h2.1 h2.2]
       simp only [Option.bind_some,decide_eq_true_eq,Bool.false_eq_true,if_false,if_true]
       generalize (el f.Acts i).Day = d
       generalize (el f.Signs (el f.Acts i).At.toNat).Day = d2
       generalize f.Bill.Day = d0
       by_cases z1:d < d0
       ·rw [if_pos z1,if_pos (by (repeat' split) <;> omega)]
       by_cases z2:d > 100000
       ·rw [if_neg z1,if_pos z2,if_pos (by (repeat' split) <;> omega)]
       by_cases z4:d < d2
       ·rw [if_neg z1,if_neg z2,if_pos z4,if_pos (by (repeat' split) <;> omega)]
       ·rw [if_neg z1,if_neg z2,if_neg z4,if_neg (by (repeat' split) <;> omega)]
   ·rw [decide_eq_false c3,if_pos (show (!false) = true from rfl),if_pos c3]
  ·rw [decide_eq_false c2,if_pos (show (!false) = true from rfl),if_pos c2]
 ·rw [decide_eq_false c1,if_pos (show (!false) = true from rfl),if_pos c1]
theorem RQ (f:aB) (i:Nat) (hi:i < f.Facts.length) (hl:f.Signs.length ≤ 50) (ha:f.Facts.length < 1000):j9 f i = some (xL f i):=by
 unfold j9 xL
 simp only [cY _ _ hi,Option.bind_some,A2]
 rw [dG (show -9223372036854775808 ≤ (f.Signs.length:Int) - 1 by omega) (by omega)]
 by_cases c1:0 ≤ (el f.Facts i).Kind ∧ (el f.Facts i).Kind ≤ 4
 ·rw [decide_eq_true c1,if_neg (by decide),if_neg (not_not_intro c1)]
  by_cases c2:0 ≤ (el f.Facts i).At ∧ (el f.Facts i).At ≤ (f.Signs.length:Int) - 1
  ·rw [decide_eq_true c2,if_neg (by decide),if_neg (not_not_intro c2)]
   by_cases c3:0 ≤ (el f.Facts i).N ∧ (el f.Facts i).N ≤ 1
   ·rw [decide_eq_true c3,if_neg (by decide),if_neg (not_not_intro c3)]
    by_cases h0:i = 0
    ·rw [if_pos h0,if_neg (fun q=>absurd (of_decide_eq_true q) (by omega))]
    ·have e:IntKind.wrap .i64 ((i:Int) - 1) = ((i - 1:Nat):Int):=by rw [dG (by omega) (by omega)]; omega
     rw [if_neg h0,if_pos (decide_eq_true (show (i:Int) > 0 by omega)),e,cY f.Facts (i - 1) (by omega)]
     simp only [Option.bind_some,decide_eq_true_eq,beq_iff_eq]
     generalize el f.Facts (i - 1) = x
     generalize el f.Facts i = y
     by_cases z1:x.At > y.At
     ·rw [if_pos z1,if_neg (by omega)]
     by_cases z2:x.At = y.At
     ·by_cases z3:x.Kind ≥ y.Kind
      ·rw [if_neg z1,if_pos z2,if_pos z3,if_neg (by omega)]
      ·rw [if_neg z1,if_pos z2,if_neg z3,if_pos (by omega)]
     ·rw [if_neg z1,if_neg z2,if_pos (by omega)]
   ·rw [decide_eq_false c3,if_pos (show (!false) = true from rfl),if_pos c3]
  ·rw [decide_eq_false c2,if_pos (show (!false) = true from rfl),if_pos c2]
 ·rw [decide_eq_false c1,if_pos (show (!false) = true from rfl),if_pos c1]
theorem L1 (r:aA) (f:aB) (bg:wT r) (w:aA.wf r) (wf:∀ i,i < f.Signs.length→pL (el f.Signs i).Flags):fT r f = some (GK r f):=by
 unfold fT GK aEm
 simp only [decide_eq_true_eq]
 by_cases h1:(f.Signs.length:Int) > 40
 ·rw [if_pos h1,if_neg (by omega)]
 by_cases h2:(f.Alters.length:Int) > 4
 ·rw [if_neg h1,if_pos h2,if_neg (by omega)]
 by_cases h3:(f.Acts.length:Int) > 100
 ·rw [if_neg h1,if_neg h2,if_pos h3,if_neg (by omega)]
 by_cases h4:(f.Facts.length:Int) > 200
 ·rw [if_neg h1,if_neg h2,if_neg h3,if_pos h4,if_neg (by omega)]
 rw [if_neg h1,if_neg h2,if_neg h3,if_neg h4,if_pos (show f.Signs.length ≤ 40 ∧ f.Alters.length ≤ 4 ∧ f.Acts.length ≤ 100 ∧ f.Facts.length ≤ 200 by omega)]
 have l1:∀ p,jF r f p 0 = some (HH p (vJ (pS r f) f.Signs.length)):=by
  intro p
  unfold jF
  refine HF (step:=fun w=>dP r f w.1 w.2) f.Signs.length (pS r f) ?_ ?_ ?_ p
  ·intro i hi hb
   simp only [dP,i8 hi,if_true,beq_self_eq_true,Q2 r f i hi (by omega) bg (wf i hi) hb,Option.bind_some,b9 (show i < 9223372036854775807 by omega)]
  ·simp only [dP,kH,if_false]
  ·intro e i he
   simp only [dP]
   split
   ·rw [if_neg (by simpa using he)]
   ·rfl
 have l4:∀ p,i7 r f p 0 = some (HH p (vJ (AV r f) f.Acts.length)):=by
  intro p
  unfold i7
  refine HF (step:=fun w=>dM r f w.1 w.2) f.Acts.length (AV r f) ?_ ?_ ?_ p
  ·intro i hi hb
   simp only [dM,i8 hi,if_true,beq_self_eq_true,RY r f i hi (by omega) (by omega) bg,Option.bind_some,b9 (show i < 9223372036854775807 by omega)]
  ·simp only [dM,kH,if_false]
  ·intro e i he
   simp only [dM]
   split
   ·rw [if_neg (by simpa using he)]
   ·rfl
 have l5:∀ p,i9 f p 0 = some (HH p (vJ (xL f) f.Facts.length)):=by
  intro p
  unfold i9
  refine HF (step:=fun w=>dN f w.1 w.2) f.Facts.length (xL f) ?_ ?_ ?_ p
  ·intro i hi hb
   simp only [dN,i8 hi,if_true,beq_self_eq_true,RQ f i hi (by omega) (by omega),Option.bind_some,b9 (show i < 9223372036854775807 by omega)]
  ·simp only [dN,kH,if_false]
  ·intro e i he
   simp only [dN]
   split
   ·rw [if_neg (by simpa using he)]
   ·rfl
 have j6:∀ p,fM r f p = some (HH p (HH (vJ (pS r f) f.Signs.length) (HH (vJ (CC f) f.Alters.length) (HH (vJ (AV r f) f.Acts.length) (vJ (xL f) f.Facts.length))))):=by
  intro p
  unfold fM
  simp only [l1,XS r f (by omega),l4,l5,Option.bind_some,aBU]
 simp only [TO r f.Bill bg w,j6,Option.bind_some,beq_iff_eq]
 by_cases c1:EN r f.Bill = 0
 ·rw [if_pos c1,if_pos c1]
  by_cases c2:f.Signs.length = 0
  ·rw [if_pos (show (f.Signs.length:Int) = 0 by omega),if_pos c2]
   rw [S2 (by decide)]
  ·rw [if_neg (show ¬ (f.Signs.length:Int) = 0 by omega),if_neg c2,c1,aHk]
 ·rw [if_neg c1,if_neg c1,S2 c1]
end Go.Proofs.Ytfhebiceipgdmaa
