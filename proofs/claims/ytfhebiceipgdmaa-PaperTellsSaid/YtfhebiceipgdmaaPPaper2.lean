/- What paper.Check answers, exactly: the alterations, the acts and the facts. -/
import Derived.Test.YtfhebiceipgdmaaPPaper
set_option linter.unusedVariables false
set_option linter.unusedSimpArgs false
namespace Go.Proofs.Ytfhebiceipgdmaa
open Go.RowKit Vm
def II (f:aB) (k:Nat):Int:=if k = 0 then 0 else (el f.Alters (k - 1)).At
def CC (f:aB) (k:Nat):Int :=
 if ¬ (IntKind.wrap .i64 (II f k + 1) ≤ (el f.Alters k).At ∧ (el f.Alters k).At ≤ (f.Signs.length:Int)) then 1
 else if ¬ (1 ≤ (el f.Alters k).Sum ∧ (el f.Alters k).Sum ≤ 1099511627776) then 3 else 0
theorem aKx (r:aA) (f:aB) (hl:f.Alters.length < 1000):qH r f 0 0 = some (NI () (NA (CC f) f.Alters.length)):=by
 unfold qH
 refine uR (step:=fun w=>jQ r f w.1 w.2) (fun k:Nat=>(II f k,(k:Int))) f.Alters.length (CC f) ?_ ?_
 ·intro k hk
  have e3:II f (k + 1) = (el f.Alters k).At:=by unfold II; rw [if_neg (by omega)]; rfl
  simp only [jQ,i8 hk,if_true,cY _ _ hk,Option.bind_some,sE,b9 (show k < 9223372036854775807 by omega),e3,CC]
  by_cases c1:IntKind.wrap .i64 (II f k + 1) ≤ (el f.Alters k).At ∧ (el f.Alters k).At ≤ (f.Signs.length:Int)
  ·rw [decide_eq_true c1,if_neg (not_not_intro c1)]
   by_cases c2:1 ≤ (el f.Alters k).Sum ∧ (el f.Alters k).Sum ≤ 1099511627776
   ·rw [decide_eq_true c2,if_neg (not_not_intro c2)]; rfl
   ·rw [decide_eq_false c2,if_pos c2]; rfl
  ·rw [decide_eq_false c1,if_pos c1]; rfl
 ·simp only [jQ,kH,if_false]
theorem Z8 (a b:Bool):(if a = true then (some (.inr b):Option (Unit ⊕ Bool)) else some (.inr false)) = some (.inr (a && b)):=by cases a <;> rfl
def S7 (f:aB) (a:bP):Bool:=decide (0 ≤ a.At ∧ a.At ≤ (f.Signs.length:Int) - 1) && SU f.Signs a.At a.Part
def SE (f:aB) (a:bP):Bool:=S7 f a && (el f.Signs a.At.toNat).Who == a.Who
def KI (a:bP) (at0 own tw:Bool):Bool :=
 if a.Kind = 0 ∨ a.Kind = 1 ∨ a.Kind = 2 then tw && (a.At == -1 && a.Sum == 0)
 else if a.Kind = 3 ∨ a.Kind = 4 ∨ a.Kind = 5 then tw && (a.At == -1 && (decide (0 ≤ a.Sum ∧ a.Sum ≤ 1099511627776) && decide (0 ≤ a.Form ∧ a.Form ≤ 1)))
 else if a.Kind = 6 then tw && (own && decide (1 ≤ a.Sum ∧ a.Sum ≤ 1099511627776))
 else if a.Kind = 9 then a.To == -1 && (own && a.Sum == 0)
 else a.To == -1 && (at0 && a.Sum == 0)
def RN (r:aA) (f:aB) (a:bP):Bool :=
 decide (0 ≤ a.Who ∧ a.Who ≤ (r.Firms.length:Int) - 1) && ((a.Kind == 4 || a.Form == 0) && KI a (S7 f a) (SE f a) (decide (0 ≤ a.To ∧ a.To ≤ (r.Firms.length:Int) - 1)))
theorem aBY (a:bP) (p3 p5 r6:Bool):qO a p3 p5 r6 = some (KI a p3 p5 r6):=by
 have j1:oH a p3 p5 r6 = some (if a.Kind = 6 then .inr (r6 && (p5 && decide (1 ≤ a.Sum ∧ a.Sum ≤ 1099511627776))) else if a.Kind = 9 then .inr (a.To == -1 && (p5 && a.Sum == 0)) else .inl ()):=by
  unfold oH
  simp only [sE,Option.bind_some,Z8]
  by_cases k6:a.Kind = 6
  ·rw [if_pos (beq_iff_eq.2 k6),if_pos k6]
  ·rw [if_neg (fun q=>k6 (eq_of_beq q)),if_neg k6]
   by_cases k9:a.Kind = 9
   ·rw [if_pos (beq_iff_eq.2 k9),if_pos k9]
   ·rw [if_neg (fun q=>k9 (eq_of_beq q)),if_neg k9]
 have j2:oO a p3 p5 r6 = some (if a.Kind = 3 ∨ a.Kind = 4 ∨ a.Kind = 5 then .inr (r6 && (a.At == -1 && (decide (0 ≤ a.Sum ∧ a.Sum ≤ 1099511627776) && decide (0 ≤ a.Form ∧ a.Form ≤ 1)))) else if a.Kind = 6 then .inr (r6 && (p5 && decide (1 ≤ a.Sum ∧ a.Sum ≤ 1099511627776))) else if a.Kind = 9 then .inr (a.To == -1 && (p5 && a.Sum == 0)) else .inl ()):=by
  unfold oO
  simp only [j1,sE,Option.bind_some,Z8]
  by_cases k3:a.Kind = 3
  ·rw [if_pos (beq_iff_eq.2 k3),if_pos (beq_iff_eq.2 k3),if_pos (show a.Kind = 3 ∨ a.Kind = 4 ∨ a.Kind = 5 from .inl k3)]
  rw [if_neg (fun q=>k3 (eq_of_beq q))]
  by_cases k5:a.Kind = 5
  ·rw [if_pos (beq_iff_eq.2 k5),if_pos (beq_iff_eq.2 k5),if_pos (show a.Kind = 3 ∨ a.Kind = 4 ∨ a.Kind = 5 from .inr (.inr k5))]
  rw [if_neg (fun q=>k5 (eq_of_beq q))]
  by_cases k4:a.Kind = 4
  ·rw [if_pos (beq_iff_eq.2 k4),if_pos (show a.Kind = 3 ∨ a.Kind = 4 ∨ a.Kind = 5 from .inr (.inl k4))]
  rw [if_neg (fun q=>k4 (eq_of_beq q)),if_neg (show ¬ (a.Kind = 3 ∨ a.Kind = 4 ∨ a.Kind = 5) by omega)]
  by_cases k6:a.Kind = 6
  ·rw [if_pos k6]; rfl
  rw [if_neg k6]
  by_cases k9:a.Kind = 9
  ·rw [if_pos k9]; rfl
  ·rw [if_neg k9]; rfl
 unfold qO qM KI
 simp only [j2,Option.bind_some,X9]
 by_cases k0:a.Kind = 0
 ·rw [if_pos (beq_iff_eq.2 k0),if_pos (beq_iff_eq.2 k0),if_pos (show a.Kind = 0 ∨ a.Kind = 1 ∨ a.Kind = 2 from .inl k0)]
 rw [if_neg (fun q=>k0 (eq_of_beq q))]
 by_cases k1:a.Kind = 1
 ·rw [if_pos (beq_iff_eq.2 k1),if_pos (beq_iff_eq.2 k1),if_pos (show a.Kind = 0 ∨ a.Kind = 1 ∨ a.Kind = 2 from .inr (.inl k1))]
 rw [if_neg (fun q=>k1 (eq_of_beq q))]
 by_cases k2:a.Kind = 2
 ·rw [if_pos (beq_iff_eq.2 k2),if_pos (show a.Kind = 0 ∨ a.Kind = 1 ∨ a.Kind = 2 from .inr (.inr k2))]
 rw [if_neg (fun q=>k2 (eq_of_beq q)),if_neg (show ¬ (a.Kind = 0 ∨ a.Kind = 1 ∨ a.Kind = 2) by omega)]
 by_cases k3:a.Kind = 3 ∨ a.Kind = 4 ∨ a.Kind = 5
 ·rw [if_pos k3,if_pos k3]; rfl
 rw [if_neg k3,if_neg k3]
 by_cases k6:a.Kind = 6
 ·rw [if_pos k6,if_pos k6]; rfl
 rw [if_neg k6,if_neg k6]
 by_cases k9:a.Kind = 9
 ·rw [if_pos k9,if_pos k9]; rfl
 ·rw [if_neg k9,if_neg k9]; rfl
theorem aCn (r:aA) (f:aB) (a:bP) (hl:f.Signs.length ≤ 50) (bg:wT r):xI r f a = some (RN r f a):=by
 have hf:=bg.frm
 have j5:∀ p3 p5,oA r a p3 p5 = some (decide (0 ≤ a.Who ∧ a.Who ≤ (r.Firms.length:Int) - 1) && ((a.Kind == 4 || a.Form == 0) && KI a p3 p5 (decide (0 ≤ a.To ∧ a.To ≤ (r.Firms.length:Int) - 1)))):=by
  intro p3 p5
  unfold oA
  simp only [sE,aBY,Option.bind_some]
  rw [dG (show -9223372036854775808 ≤ (r.Firms.length:Int) - 1 by omega) (by omega)]
  generalize KI a p3 p5 _ = z
  generalize decide (0 ≤ a.Who ∧ a.Who ≤ (r.Firms.length:Int) - 1) = y
  by_cases c1:a.Kind = 4 <;> by_cases c2:a.Form = 0 <;> cases y <;> simp [c1,c2]
 unfold xI RN
 simp only [sE,Option.bind_some]
 rw [dG (show -9223372036854775808 ≤ (f.Signs.length:Int) - 1 by omega) (by omega)]
 by_cases c:0 ≤ a.At ∧ a.At ≤ (f.Signs.length:Int) - 1
 ·have h1:S7 f a = SU f.Signs a.At a.Part:=by unfold S7; rw [decide_eq_true c,Bool.true_and]
  rw [decide_eq_true c,if_pos rfl,LI f _ _ (.inr ⟨c.1,by omega⟩),Option.bind_some]
  have j6:oD r f a (SU f.Signs a.At a.Part) = oA r a (S7 f a) (SE f a):=by
   unfold oD SE
   rw [h1,JX _ _ c.1 (by omega)]
   simp only [j5,Option.bind_some]
   cases SU f.Signs a.At a.Part <;> rfl
  rw [j6,j5]; rfl
 ·have h1:S7 f a = false:=by unfold S7; rw [decide_eq_false c,Bool.false_and]
  have h2:SE f a = false:=by unfold SE; rw [h1,Bool.false_and]
  rw [decide_eq_false c,if_neg (by decide),h1,h2]
  unfold oD
  simp only [j5,Option.bind_some,Bool.false_eq_true,if_false]
def aE4 (f:aB) (a:bP):Int:=if a.At ≠ -1 then (if (el f.Signs a.At.toNat).Day > f.Bill.Day then (el f.Signs a.At.toNat).Day else f.Bill.Day) else f.Bill.Day
def WX (f:aB) (i:Nat):Int:=if 0 < i then (if (el f.Acts (i - 1)).Day > aE4 f (el f.Acts i) then (el f.Acts (i - 1)).Day else aE4 f (el f.Acts i)) else aE4 f (el f.Acts i)
def AV (r:aA) (f:aB) (i:Nat):Int :=
 if ¬ (0 ≤ (el f.Acts i).Part ∧ (el f.Acts i).Part ≤ hiP f.Bill) then 15
 else if ¬ (0 ≤ (el f.Acts i).City ∧ (el f.Acts i).City ≤ (r.Cities.length:Int) - 1) then 1
 else if ¬ (0 ≤ (el f.Acts i).Kind ∧ (el f.Acts i).Kind ≤ 9) then 1
 else if RN r f (el f.Acts i) = false then 14
 else if ¬ (WX f i ≤ (el f.Acts i).Day ∧ (el f.Acts i).Day ≤ 100000) then 13 else 0
theorem aCx {r:aA} {f:aB} {a:bP} (h:RN r f a = true):a.At = -1 ∨ 0 ≤ a.At ∧ a.At < f.Signs.length:=by
 unfold RN at h
 simp only [Bool.and_eq_true] at h
 have h:=h.2.2
 have hat:S7 f a = true→0 ≤ a.At ∧ a.At < f.Signs.length:=by
  intro q
  unfold S7 at q
  rw [Bool.and_eq_true,decide_eq_true_eq] at q
  omega
 have hown:SE f a = true→0 ≤ a.At ∧ a.At < f.Signs.length:=by
  intro q
  unfold SE at q
  rw [Bool.and_eq_true] at q
  exact hat q.1
 unfold KI at h
 split at h
 ·simp only [Bool.and_eq_true,beq_iff_eq] at h; exact .inl h.2.1
 split at h
 ·simp only [Bool.and_eq_true,beq_iff_eq] at h; exact .inl h.2.1
 split at h
 ·simp only [Bool.and_eq_true] at h; exact .inr (hown h.2.1)
 split at h
 ·simp only [Bool.and_eq_true] at h; exact .inr (hown h.2.1)
 ·simp only [Bool.and_eq_true] at h; exact .inr (hat h.2.1)
theorem ZV (n:Nat) (m d:Int):Sum.elim (fun _=>some (.inl (n:Int))) (fun _=>some (.inr (.inr 13))) (if m ≤ d ∧ d ≤ 100000 then (.inl ():Unit ⊕ Unit) else .inr ()) = some (CV (n:Int) (if ¬ (m ≤ d ∧ d ≤ 100000) then 13 else 0)):=by
 by_cases h:m ≤ d ∧ d ≤ 100000
 ·rw [if_pos h,if_neg (not_not_intro h)]; rfl
 ·rw [if_neg h,if_pos h]; rfl
theorem aF3 (r:aA) (f:aB) (hl:f.Signs.length ≤ 50) (ha:f.Acts.length < 1000) (bg:wT r):vD r f = some (vJ (AV r f) f.Acts.length):=by
 have hc:=bg.cit
 have l3:rU r f 0 = some (NI () (NA (AV r f) f.Acts.length)):=by
  unfold rU
  refine uR (step:=fun w=>lA r f w) (fun k:Nat=>(k:Int)) f.Acts.length (AV r f) ?_ ?_
  ·intro i hi
   simp only [lA,i8 hi,if_true,cY _ _ hi,Option.bind_some,sE,aCn r f _ hl bg,b9 (show i < 9223372036854775807 by omega)]
   rw [dG (show -9223372036854775808 ≤ (r.Cities.length:Int) - 1 by omega) (by omega)]
   have hj2:∀ p,pC r f i (el f.Acts i) p = some (if (if 0 < i then (if (el f.Acts (i - 1)).Day > p then (el f.Acts (i - 1)).Day else p) else p) ≤ (el f.Acts i).Day ∧ (el f.Acts i).Day ≤ 100000 then .inl () else .inr ()):=by
    intro p
    unfold pC rJ
    simp only [sE,Option.bind_some]
    by_cases c:0 < i
    ·have e:IntKind.wrap .i64 ((i:Int) - 1) = ((i - 1:Nat):Int):=by rw [dG (by omega) (by omega)]; omega
     rw [if_pos (decide_eq_true (show (i:Int) > 0 by omega)),e,cY _ _ (show i - 1 < f.Acts.length by omega),Option.bind_some,if_pos c]
     generalize (if (el f.Acts (i - 1)).Day > p then (el f.Acts (i - 1)).Day else p) = m
     by_cases d:m ≤ (el f.Acts i).Day ∧ (el f.Acts i).Day ≤ 100000
     ·rw [decide_eq_true d,if_pos d]; rfl
     ·rw [decide_eq_false d,if_neg d]; rfl
    ·rw [if_neg (fun q=>absurd (of_decide_eq_true q) (by omega)),if_neg c]
     by_cases d:p ≤ (el f.Acts i).Day ∧ (el f.Acts i).Day ≤ 100000
     ·rw [decide_eq_true d,if_pos d]; rfl
     ·rw [decide_eq_false d,if_neg d]; rfl
   simp only [hj2,Option.bind_some]
   have hat:=aCx (r:=r) (f:=f) (a:=el f.Acts i)
   unfold AV WX aE4
   generalize el f.Acts i = a at hat ⊢
   show (if (!decide (0 ≤ a.Part ∧ a.Part ≤ hiP f.Bill)) = true then _ else _) = _
   by_cases c1:0 ≤ a.Part ∧ a.Part ≤ hiP f.Bill
   ·by_cases c2:0 ≤ a.City ∧ a.City ≤ (r.Cities.length:Int) - 1
    ·by_cases c3:0 ≤ a.Kind ∧ a.Kind ≤ 9
     ·rw [decide_eq_true c1,decide_eq_true c2,decide_eq_true c3,if_neg (not_not_intro c1),if_neg (not_not_intro c2),if_neg (not_not_intro c3)]
      simp only [Bool.not_true,Bool.false_eq_true,if_false]
      cases c4:RN r f a with
      | false=>rfl
      | true =>
       simp only [Bool.not_true,Bool.false_eq_true,if_false]
       by_cases c5:a.At = -1
       ·have c5' : (a.At != -1) = false:=by simp [c5]
        rw [c5',if_neg (not_not_intro c5)]
        simp only [Bool.false_eq_true,if_false]
        rw [if_neg (show ¬ (true = false) by decide)]
        exact ZV _ _ _
       ·have c5' : (a.At != -1) = true:=by simp [c5]
        rw [c5',if_pos c5,JX _ _ ((hat c4).resolve_left c5).1 ((hat c4).resolve_left c5).2]
        simp only [if_true,Option.bind_some]
        rw [if_neg (show ¬ (true = false) by decide)]
        exact ZV _ _ _
     ·rw [decide_eq_true c1,decide_eq_true c2,decide_eq_false c3,if_neg (not_not_intro c1),if_neg (not_not_intro c2),if_pos c3]; rfl
    ·rw [decide_eq_true c1,decide_eq_false c2,if_neg (not_not_intro c1),if_pos c2]; rfl
   ·rw [decide_eq_false c1,if_pos c1]; rfl
  ·simp only [lA,kH,if_false]
 unfold vD
 rw [l3]
 exact OU () _
def PT (a b:Int):Int:=if a < b then -1 else if a > b then 1 else 0
theorem V9 (a b:Int):lH a b = some (PT a b):=by
 unfold lH o7 PT
 simp only [bne_self_eq_false,Option.bind_some,Bool.false_eq_true,if_false,decide_eq_true_eq]
 split
 ·rfl
 ·split <;> rfl
theorem QJ (a b:Int):PT a b = -1 ∧ a < b ∨ PT a b = 1 ∧ a > b ∨ PT a b = 0 ∧ a = b:=by
 unfold PT
 by_cases p:a < b
 ·exact .inl ⟨if_pos p,p⟩
 ·rw [if_neg p]
  by_cases q:a > b
  ·exact .inr (.inl ⟨if_pos q,q⟩)
  ·exact .inr (.inr ⟨if_neg q,by omega⟩)
theorem ZS (a b c d:Int):((if PT a b ≠ 0 then PT a b else PT c d) ≥ 0) ↔ ¬ (a < b ∨ a = b ∧ c < d):=by
 have h1:=QJ a b
 have h2:=QJ c d
 by_cases e:PT a b = 0
 ·rw [if_neg (not_not_intro e)]; omega
 ·rw [if_pos e]; omega
theorem aLk (a b:Int):uW [a,b] = some (if a ≠ 0 then a else b):=by
 have h:rE [a,b] 0 = some (NI () (iT (fun i=>if el [a,b] i ≠ 0 then some (el [a,b] i) else none) 0 2)):=by
  unfold rE
  refine rG (fun i:Nat=>(i:Int)) 2 _ () ?_ ?_
  ·intro i hi
   have hl:i < [a,b].length:=hi
   simp only [pE,i8 hl,if_true,cY _ _ hl,Option.bind_some,b9 (show i < 9223372036854775807 by omega),bne_iff_ne]
   by_cases e:el [a,b] i = 0
   ·rw [if_neg (not_not_intro e),if_neg (not_not_intro e)]
   ·rw [if_pos e,if_pos e]
  ·rfl
 unfold uW
 rw [h]
 have e0:el [a,b] 0 = a:=rfl
 have e1:el [a,b] 1 = b:=rfl
 simp only [iT,e0,e1]
 by_cases c1:a = 0
 ·by_cases c2:b = 0
  ·simp [c1,c2,NI]
  ·simp [c1,c2,NI]
 ·simp [c1,NI]
def xL (f:aB) (i:Nat):Int :=
 if ¬ (0 ≤ (el f.Facts i).Kind ∧ (el f.Facts i).Kind ≤ 4) then 1
 else if ¬ (0 ≤ (el f.Facts i).At ∧ (el f.Facts i).At ≤ (f.Signs.length:Int) - 1) then 1
 else if ¬ (0 ≤ (el f.Facts i).N ∧ (el f.Facts i).N ≤ 1) then 1
 else if i = 0 then 0
 else if (el f.Facts (i - 1)).At < (el f.Facts i).At ∨ (el f.Facts (i - 1)).At = (el f.Facts i).At ∧ (el f.Facts (i - 1)).Kind < (el f.Facts i).Kind then 0 else 5
theorem aEu (f:aB) (hl:f.Signs.length ≤ 50) (ha:f.Facts.length < 1000):sF f = some (vJ (xL f) f.Facts.length):=by
 have l1:qF f 0 = some (NI () (NA (xL f) f.Facts.length)):=by
  unfold qF
  refine uR (step:=fun w=>jN f w) (fun k:Nat=>(k:Int)) f.Facts.length (xL f) ?_ ?_
  ·intro i hi
   simp only [jN,i8 hi,if_true,cY _ _ hi,Option.bind_some,sE,V9,aLk,b9 (show i < 9223372036854775807 by omega)]
   rw [dG (show -9223372036854775808 ≤ (f.Signs.length:Int) - 1 by omega) (by omega)]
   unfold xL
   by_cases c1:0 ≤ (el f.Facts i).Kind ∧ (el f.Facts i).Kind ≤ 4
   ·by_cases c2:0 ≤ (el f.Facts i).At ∧ (el f.Facts i).At ≤ (f.Signs.length:Int) - 1
    ·by_cases c3:0 ≤ (el f.Facts i).N ∧ (el f.Facts i).N ≤ 1
     ·rw [decide_eq_true c1,decide_eq_true c2,decide_eq_true c3,if_neg (not_not_intro c1),if_neg (not_not_intro c2),if_neg (not_not_intro c3)]
      simp only [Bool.not_true,Bool.false_eq_true,if_false]
      by_cases c:i = 0
      ·subst c; rfl
      ·have c' : ((i:Int) == 0) = false:=by rw [beq_eq_false_iff_ne]; omega
       have e:IntKind.wrap .i64 ((i:Int) - 1) = ((i - 1:Nat):Int):=by rw [dG (by omega) (by omega)]; omega
       rw [c',if_neg c,e,cY _ _ (show i - 1 < f.Facts.length by omega)]
       simp only [Bool.false_eq_true,if_false,Option.bind_some,decide_eq_true_eq]
       generalize el f.Facts (i - 1) = x
       generalize el f.Facts i = y
       by_cases d:x.At < y.At ∨ x.At = y.At ∧ x.Kind < y.Kind
       ·rw [if_neg (fun q=>(ZS x.At y.At x.Kind y.Kind).1 q d),if_pos d]; rfl
       ·rw [if_pos ((ZS x.At y.At x.Kind y.Kind).2 d),if_neg d]; rfl
     ·rw [decide_eq_true c1,decide_eq_true c2,decide_eq_false c3,if_neg (not_not_intro c1),if_neg (not_not_intro c2),if_pos c3]; rfl
    ·rw [decide_eq_true c1,decide_eq_false c2,if_neg (not_not_intro c1),if_pos c2]; rfl
   ·rw [decide_eq_false c1,if_pos c1]; rfl
  ·simp only [jN,kH,if_false]
 unfold sF
 rw [l1]
 exact OU () _
def aEm (f:aB):Bool:=decide (f.Signs.length ≤ 40 ∧ f.Alters.length ≤ 4 ∧ f.Acts.length ≤ 100 ∧ f.Facts.length ≤ 200)
noncomputable def GK (r:aA) (f:aB):Int :=
 if aEm f = true then (if EN r f.Bill = 0 then (if f.Signs.length = 0 then 14 else HH (vJ (pS r f) f.Signs.length) (HH (vJ (CC f) f.Alters.length) (HH (vJ (AV r f) f.Acts.length) (vJ (xL f) f.Facts.length)))) else EN r f.Bill) else 6
theorem QR (r:aA) (f:aB) (bg:wT r) (w:aA.wf r):lP r f = some (GK r f):=by
 unfold lP GK aEm
 simp only [decide_eq_true_eq]
 by_cases h1:(f.Signs.length:Int) > 40
 ·rw [if_pos h1,if_neg (by omega)]
 by_cases h2:(f.Alters.length:Int) > 4
 ·rw [if_neg h1,if_pos h2,if_neg (by omega)]
 by_cases h3:(f.Acts.length:Int) > 100
 ·rw [if_neg h1,if_neg h2,if_pos h3,if_neg (by omega)]
 by_cases h4:(f.Facts.length:Int) > 200
 ·rw [if_neg h1,if_neg h2,if_neg h3,if_pos h4,if_neg (by omega)]
 rw [if_neg h1,if_neg h2,if_neg h3,if_neg h4,if_pos (show f.Signs.length ≤ 40 ∧ f.Alters.length ≤ 4 ∧ f.Acts.length ≤ 100 ∧ f.Facts.length ≤ 200 by omega)]
 have l1:qG r f 0 = some (NI () (NA (pS r f) f.Signs.length)):=by
  unfold qG
  refine uR (step:=fun w=>j0 r f w) (fun k:Nat=>(k:Int)) f.Signs.length (pS r f) ?_ ?_
  ·intro i hi
   simp only [j0,i8 hi,if_true,aGu r f i hi (by omega) bg,Option.bind_some,b9 (show i < 9223372036854775807 by omega),bne_iff_ne,CV]
   by_cases e:pS r f i = 0
   ·rw [if_neg (not_not_intro e),if_pos e]
   ·rw [if_pos e,if_neg e]
  ·simp only [j0,kH,if_false]
 simp only [aF0 r f.Bill bg w,l1,aKx r f (by omega),aF3 r f (by omega) (by omega) bg,aEu f (by omega) (by omega),Option.bind_some,bne_iff_ne,beq_iff_eq,G7]
 by_cases c1:EN r f.Bill = 0
 ·rw [if_neg (not_not_intro c1),if_pos c1]
  by_cases c2:f.Signs.length = 0
  ·rw [if_pos (show (f.Signs.length:Int) = 0 by omega),if_pos c2]
  ·rw [if_neg (show ¬ (f.Signs.length:Int) = 0 by omega),if_neg c2]
   unfold HH
   by_cases e1:vJ (pS r f) f.Signs.length = 0
   ·rw [if_pos e1,if_pos e1]
    by_cases e2:vJ (CC f) f.Alters.length = 0
    ·rw [if_pos e2,if_pos e2]
     by_cases e3:vJ (AV r f) f.Acts.length = 0
     ·rw [if_neg (not_not_intro e3),if_pos e3]
     ·rw [if_pos e3,if_neg e3]
    ·rw [if_neg e2,if_neg e2]
   ·rw [if_neg e1,if_neg e1]
 ·rw [if_pos c1,if_neg c1]
end Go.Proofs.Ytfhebiceipgdmaa
