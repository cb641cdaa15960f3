/- What paper.Check answers, exactly: the alterations, the acts and the facts. -/
import Derived.Test.YtfhebiceipgdmaaPPaper
set_option linter.unusedVariables false
set_option linter.unusedSimpArgs false
namespace Go.Proofs.Ytfhebiceipgdmaa
open Go.RowKit Vm
def zP (f:aB) (k:Nat):Int:=if k = 0 then 0 else (el f.Alters (k - 1)).At
def wE (f:aB) (k:Nat):Int :=
 if ¬ (IntKind.wrap .i64 (zP f k + 1) ≤ (el f.Alters k).At ∧ (el f.Alters k).At ≤ (f.Signs.length:Int)) then 1
 else if ¬ (1 ≤ (el f.Alters k).Sum ∧ (el f.Alters k).Sum ≤ 1099511627776) then 3 else 0
theorem aH5 (r:aA) (f:aB) (hl:f.Alters.length < 1000):nE r f 0 0 = some (N1 () (VJ (wE f) f.Alters.length)):=by
 unfold nE
 refine CQ (step:=fun w=>iC r f w.1 w.2) (fun k:Nat=>(zP f k,(k:Int))) f.Alters.length (wE f) ?_ ?_
 ·intro k hk
  have e3:zP f (k + 1) = (el f.Alters k).At:=by unfold zP; rw [if_neg (by omega)]; rfl
  simp only [iC,mN hk,if_true,eQ _ _ hk,Option.bind_some,qB,b9 (show k < 9223372036854775807 by omega),e3,wE]
  by_cases c1:IntKind.wrap .i64 (zP f k + 1) ≤ (el f.Alters k).At ∧ (el f.Alters k).At ≤ (f.Signs.length:Int)
  ·rw [decide_eq_true c1,if_neg (not_not_intro c1)]
   by_cases c2:1 ≤ (el f.Alters k).Sum ∧ (el f.Alters k).Sum ≤ 1099511627776
   ·rw [decide_eq_true c2,if_neg (not_not_intro c2)]; rfl
   ·rw [decide_eq_false c2,if_pos c2]; rfl
  ·rw [decide_eq_false c1,if_pos c1]; rfl
 ·simp only [iC,oF,if_false]
theorem W0 (a b:Bool):(if a = true then (some (.inr b):Option (Unit ⊕ Bool)) else some (.inr false)) = some (.inr (a && b)):=by cases a <;> rfl
def UU (f:aB) (a:bB):Bool:=decide (0 ≤ a.At ∧ a.At ≤ (f.Signs.length:Int) - 1) && onB f.Signs a.At a.Part
def LS (f:aB) (a:bB):Bool:=UU f a && (el f.Signs a.At.toNat).Who == a.Who
def ND (a:bB) (at0 own tw:Bool):Bool :=
 if a.Kind = 0 ∨ a.Kind = 1 ∨ a.Kind = 2 then tw && (a.At == -1 && a.Sum == 0)
 else if a.Kind = 3 ∨ a.Kind = 4 ∨ a.Kind = 5 then tw && (a.At == -1 && (decide (0 ≤ a.Sum ∧ a.Sum ≤ 1099511627776) && decide (0 ≤ a.Form ∧ a.Form ≤ 1)))
 else if a.Kind = 6 then tw && (own && decide (1 ≤ a.Sum ∧ a.Sum ≤ 1099511627776))
 else if a.Kind = 9 then a.To == -1 && (own && a.Sum == 0)
 else a.To == -1 && (at0 && a.Sum == 0)
def LM (r:aA) (f:aB) (a:bB):Bool :=
 decide (0 ≤ a.Who ∧ a.Who ≤ (r.Firms.length:Int) - 1) && ((a.Kind == 4 || a.Form == 0) && ND a (UU f a) (LS f a) (decide (0 ≤ a.To ∧ a.To ≤ (r.Firms.length:Int) - 1)))
theorem XT (a:bB) (p3 p5 r6:Bool):nL a p3 p5 r6 = some (ND a p3 p5 r6):=by
 have j1:lJ a p3 p5 r6 = some (if a.Kind = 6 then .inr (r6 && (p5 && decide (1 ≤ a.Sum ∧ a.Sum ≤ 1099511627776))) else if a.Kind = 9 then .inr (a.To == -1 && (p5 && a.Sum == 0)) else .inl ()):=by
  unfold lJ
  simp only [qB,Option.bind_some,W0]
  by_cases k6:a.Kind = 6
  ·rw [if_pos (beq_iff_eq.2 k6),if_pos k6]
  ·rw [if_neg (fun q=>k6 (eq_of_beq q)),if_neg k6]
   by_cases k9:a.Kind = 9
   ·rw [if_pos (beq_iff_eq.2 k9),if_pos k9]
   ·rw [if_neg (fun q=>k9 (eq_of_beq q)),if_neg k9]
 have j2:lI a p3 p5 r6 = some (if a.Kind = 3 ∨ a.Kind = 4 ∨ a.Kind = 5 then .inr (r6 && (a.At == -1 && (decide (0 ≤ a.Sum ∧ a.Sum ≤ 1099511627776) && decide (0 ≤ a.Form ∧ a.Form ≤ 1)))) else if a.Kind = 6 then .inr (r6 && (p5 && decide (1 ≤ a.Sum ∧ a.Sum ≤ 1099511627776))) else if a.Kind = 9 then .inr (a.To == -1 && (p5 && a.Sum == 0)) else .inl ()):=by
  unfold lI
  simp only [j1,qB,Option.bind_some,W0]
  by_cases k3:a.Kind = 3
  ·rw [if_pos (beq_iff_eq.2 k3),if_pos (beq_iff_eq.2 k3),if_pos (show a.Kind = 3 ∨ a.Kind = 4 ∨ a.Kind = 5 from .inl k3)]
  rw [if_neg (fun q=>k3 (eq_of_beq q))]
  by_cases k5:a.Kind = 5
  ·rw [if_pos (beq_iff_eq.2 k5),if_pos (beq_iff_eq.2 k5),if_pos (show a.Kind = 3 ∨ a.Kind = 4 ∨ a.Kind = 5 from .inr (.inr k5))]
  rw [if_neg (fun q=>k5 (eq_of_beq q))]
  by_cases k4:a.Kind = 4
  ·rw [if_pos (beq_iff_eq.2 k4),if_pos (show a.Kind = 3 ∨ a.Kind = 4 ∨ a.Kind = 5 from .inr (.inl k4))]
  rw [if_neg (fun q=>k4 (eq_of_beq q)),if_neg (show ¬ (a.Kind = 3 ∨ a.Kind = 4 ∨ a.Kind = 5) by omega)]
  by_cases k6:a.Kind = 6
  ·rw [if_pos k6]; rfl
  rw [if_neg k6]
  by_cases k9:a.Kind = 9
  ·rw [if_pos k9]; rfl
  ·rw [if_neg k9]; rfl
 unfold nL nM ND
 simp only [j2,Option.bind_some,UO]
 by_cases k0:a.Kind = 0
 ·rw [if_pos (beq_iff_eq.2 k0),if_pos (beq_iff_eq.2 k0),if_pos (show a.Kind = 0 ∨ a.Kind = 1 ∨ a.Kind = 2 from .inl k0)]
 rw [if_neg (fun q=>k0 (eq_of_beq q))]
 by_cases k1:a.Kind = 1
 ·rw [if_pos (beq_iff_eq.2 k1),if_pos (beq_iff_eq.2 k1),if_pos (show a.Kind = 0 ∨ a.Kind = 1 ∨ a.Kind = 2 from .inr (.inl k1))]
 rw [if_neg (fun q=>k1 (eq_of_beq q))]
 by_cases k2:a.Kind = 2
 ·rw [if_pos (beq_iff_eq.2 k2),if_pos (show a.Kind = 0 ∨ a.Kind = 1 ∨ a.Kind = 2 from .inr (.inr k2))]
 rw [if_neg (fun q=>k2 (eq_of_beq q)),if_neg (show ¬ (a.Kind = 0 ∨ a.Kind = 1 ∨ a.Kind = 2) by omega)]
 by_cases k3:a.Kind = 3 ∨ a.Kind = 4 ∨ a.Kind = 5
 ·rw [if_pos k3,if_pos k3]; rfl
 rw [if_neg k3,if_neg k3]
 by_cases k6:a.Kind = 6
 ·rw [if_pos k6,if_pos k6]; rfl
 rw [if_neg k6,if_neg k6]
 by_cases k9:a.Kind = 9
 ·rw [if_pos k9,if_pos k9]; rfl
 ·rw [if_neg k9,if_neg k9]; rfl
theorem aB8 (r:aA) (f:aB) (a:bB) (hl:f.Signs.length ≤ 50) (bg:IG r):s9 r f a = some (LM r f a):=by
 have hf:=bg.frm
 have j5:∀ p3 p5,lH r a p3 p5 = some (decide (0 ≤ a.Who ∧ a.Who ≤ (r.Firms.length:Int) - 1) && ((a.Kind == 4 || a.Form == 0) && ND a p3 p5 (decide (0 ≤ a.To ∧ a.To ≤ (r.Firms.length:Int) - 1)))):=by
  intro p3 p5
  unfold lH
  simp only [qB,XT,Option.bind_some]
  rw [nS (show -9223372036854775808 ≤ (r.Firms.length:Int) - 1 by omega) (by omega)]
  generalize ND a p3 p5 _ = z
  generalize decide (0 ≤ a.Who ∧ a.Who ≤ (r.Firms.length:Int) - 1) = y
  by_cases c1:a.Kind = 4 <;> by_cases c2:a.Form = 0 <;> cases y <;> simp [c1,c2]
 unfold s9 LM
 simp only [qB,Option.bind_some]
 rw [nS (show -9223372036854775808 ≤ (f.Signs.length:Int) - 1 by omega) (by omega)]
 by_cases c:0 ≤ a.At ∧ a.At ≤ (f.Signs.length:Int) - 1
 ·have h1:UU f a = onB f.Signs a.At a.Part:=by unfold UU; rw [decide_eq_true c,Bool.true_and]
  rw [decide_eq_true c,if_pos rfl,MY f _ _ (.inr ⟨c.1,by omega⟩),Option.bind_some]
  have j6:lD r f a (onB f.Signs a.At a.Part) = lH r a (UU f a) (LS f a):=by
   unfold lD LS
   rw [h1,VW _ _ c.1 (by omega)]
   simp only [j5,Option.bind_some]
   cases onB f.Signs a.At a.Part <;> rfl
  rw [j6,j5]; rfl
 ·have h1:UU f a = false:=by unfold UU; rw [decide_eq_false c,Bool.false_and]
  have h2:LS f a = false:=by unfold LS; rw [h1,Bool.false_and]
  rw [decide_eq_false c,if_neg (by decide),h1,h2]
  unfold lD
  simp only [j5,Option.bind_some,Bool.false_eq_true,if_false]
def KS (f:aB) (a:bB):Int:=if a.At ≠ -1 then (if (el f.Signs a.At.toNat).Day > f.Bill.Day then (el f.Signs a.At.toNat).Day else f.Bill.Day) else f.Bill.Day
def AP (f:aB) (i:Nat):Int:=if 0 < i then (if (el f.Acts (i - 1)).Day > KS f (el f.Acts i) then (el f.Acts (i - 1)).Day else KS f (el f.Acts i)) else KS f (el f.Acts i)
def uY (r:aA) (f:aB) (i:Nat):Int :=
 if ¬ (0 ≤ (el f.Acts i).Part ∧ (el f.Acts i).Part ≤ hiP f.Bill) then 15
 else if ¬ (0 ≤ (el f.Acts i).City ∧ (el f.Acts i).City ≤ (r.Cities.length:Int) - 1) then 1
 else if ¬ (0 ≤ (el f.Acts i).Kind ∧ (el f.Acts i).Kind ≤ 9) then 1
 else if LM r f (el f.Acts i) = false then 14
 else if ¬ (AP f i ≤ (el f.Acts i).Day ∧ (el f.Acts i).Day ≤ 100000) then 13 else 0
theorem aDQ {r:aA} {f:aB} {a:bB} (h:LM r f a = true):a.At = -1 ∨ 0 ≤ a.At ∧ a.At < f.Signs.length:=by
 unfold LM at h
 simp only [Bool.and_eq_true] at h
 have h:=h.2.2
 have hat:UU f a = true→0 ≤ a.At ∧ a.At < f.Signs.length:=by
  intro q
  unfold UU at q
  rw [Bool.and_eq_true,decide_eq_true_eq] at q
  omega
 have hown:LS f a = true→0 ≤ a.At ∧ a.At < f.Signs.length:=by
  intro q
  unfold LS at q
  rw [Bool.and_eq_true] at q
  exact hat q.1
 unfold ND at h
 split at h
 ·simp only [Bool.and_eq_true,beq_iff_eq] at h; exact .inl h.2.1
 split at h
 ·simp only [Bool.and_eq_true,beq_iff_eq] at h; exact .inl h.2.1
 split at h
 ·simp only [Bool.and_eq_true] at h; exact .inr (hown h.2.1)
 split at h
 ·simp only [Bool.and_eq_true] at h; exact .inr (hown h.2.1)
 ·simp only [Bool.and_eq_true] at h; exact .inr (hat h.2.1)
theorem WB (n:Nat) (m d:Int):Sum.elim (fun _=>some (.inl (n:Int))) (fun _=>some (.inr (.inr 13))) (if m ≤ d ∧ d ≤ 100000 then (.inl ():Unit ⊕ Unit) else .inr ()) = some (GV (n:Int) (if ¬ (m ≤ d ∧ d ≤ 100000) then 13 else 0)):=by
 by_cases h:m ≤ d ∧ d ≤ 100000
 ·rw [if_pos h,if_neg (not_not_intro h)]; rfl
 ·rw [if_neg h,if_pos h]; rfl
theorem aGY (r:aA) (f:aB) (hl:f.Signs.length ≤ 50) (ha:f.Acts.length < 1000) (bg:IG r):rB r f = some (CE (uY r f) f.Acts.length):=by
 have hc:=bg.cit
 have l3:oR r f 0 = some (N1 () (VJ (uY r f) f.Acts.length)):=by
  unfold oR
  refine CQ (step:=fun w=>iT r f w) (fun k:Nat=>(k:Int)) f.Acts.length (uY r f) ?_ ?_
  ·intro i hi
   simp only [iT,mN hi,if_true,eQ _ _ hi,Option.bind_some,qB,aB8 r f _ hl bg,b9 (show i < 9223372036854775807 by omega)]
   rw [nS (show -9223372036854775808 ≤ (r.Cities.length:Int) - 1 by omega) (by omega)]
   have hj2:∀ p,l9 r f i (el f.Acts i) p = some (if (if 0 < i then (if (el f.Acts (i - 1)).Day > p then (el f.Acts (i - 1)).Day else p) else p) ≤ (el f.Acts i).Day ∧ (el f.Acts i).Day ≤ 100000 then .inl () else .inr ()):=by
    intro p
    unfold l9 oI
    simp only [qB,Option.bind_some]
    by_cases c:0 < i
    ·have e:IntKind.wrap .i64 ((i:Int) - 1) = ((i - 1:Nat):Int):=by rw [nS (by omega) (by omega)]; omega
     rw [if_pos (decide_eq_true (show (i:Int) > 0 by omega)),e,eQ _ _ (show i - 1 < f.Acts.length by omega),Option.bind_some,if_pos c]
     generalize (if (el f.Acts (i - 1)).Day > p then (el f.Acts (i - 1)).Day else p) = m
     by_cases d:m ≤ (el f.Acts i).Day ∧ (el f.Acts i).Day ≤ 100000
     ·rw [decide_eq_true d,if_pos d]; rfl
     ·rw [decide_eq_false d,if_neg d]; rfl
    ·rw [if_neg (fun q=>absurd (of_decide_eq_true q) (by omega)),if_neg c]
     by_cases d:p ≤ (el f.Acts i).Day ∧ (el f.Acts i).Day ≤ 100000
     ·rw [decide_eq_true d,if_pos d]; rfl
     ·rw [decide_eq_false d,if_neg d]; rfl
   simp only [hj2,Option.bind_some]
   have hat:=aDQ (r:=r) (f:=f) (a:=el f.Acts i)
   unfold uY AP KS
   generalize el f.Acts i = a at hat ⊢
   show (if (!decide (0 ≤ a.Part ∧ a.Part ≤ hiP f.Bill)) = true then _ else _) = _
   by_cases c1:0 ≤ a.Part ∧ a.Part ≤ hiP f.Bill
   ·by_cases c2:0 ≤ a.City ∧ a.City ≤ (r.Cities.length:Int) - 1
    ·by_cases c3:0 ≤ a.Kind ∧ a.Kind ≤ 9
     ·rw [decide_eq_true c1,decide_eq_true c2,decide_eq_true c3,if_neg (not_not_intro c1),if_neg (not_not_intro c2),if_neg (not_not_intro c3)]
      simp only [Bool.not_true,Bool.false_eq_true,if_false]
      cases c4:LM r f a with
      | false=>rfl
      | true =>
       simp only [Bool.not_true,Bool.false_eq_true,if_false]
       by_cases c5:a.At = -1
       ·have c5' : (a.At != -1) = false:=by simp [c5]
        rw [c5',if_neg (not_not_intro c5)]
        simp only [Bool.false_eq_true,if_false]
        rw [if_neg (show ¬ (true = false) by decide)]
        exact WB _ _ _
       ·have c5' : (a.At != -1) = true:=by simp [c5]
        rw [c5',if_pos c5,VW _ _ ((hat c4).resolve_left c5).1 ((hat c4).resolve_left c5).2]
        simp only [if_true,Option.bind_some]
        rw [if_neg (show ¬ (true = false) by decide)]
        exact WB _ _ _
     ·rw [decide_eq_true c1,decide_eq_true c2,decide_eq_false c3,if_neg (not_not_intro c1),if_neg (not_not_intro c2),if_pos c3]; rfl
    ·rw [decide_eq_true c1,decide_eq_false c2,if_neg (not_not_intro c1),if_pos c2]; rfl
   ·rw [decide_eq_false c1,if_pos c1]; rfl
  ·simp only [iT,oF,if_false]
 unfold rB
 rw [l3]
 exact I6 () _
def L3 (a b:Int):Int:=if a < b then -1 else if a > b then 1 else 0
theorem US (a b:Int):iO a b = some (L3 a b):=by
 unfold iO mB L3
 simp only [bne_self_eq_false,Option.bind_some,Bool.false_eq_true,if_false,decide_eq_true_eq]
 split
 ·rfl
 ·split <;> rfl
theorem M9 (a b:Int):L3 a b = -1 ∧ a < b ∨ L3 a b = 1 ∧ a > b ∨ L3 a b = 0 ∧ a = b:=by
 unfold L3
 by_cases p:a < b
 ·exact .inl ⟨if_pos p,p⟩
 ·rw [if_neg p]
  by_cases q:a > b
  ·exact .inr (.inl ⟨if_pos q,q⟩)
  ·exact .inr (.inr ⟨if_neg q,by omega⟩)
theorem WV (a b c d:Int):((if L3 a b ≠ 0 then L3 a b else L3 c d) ≥ 0) ↔ ¬ (a < b ∨ a = b ∧ c < d):=by
 have h1:=M9 a b
 have h2:=M9 c d
 by_cases e:L3 a b = 0
 ·rw [if_neg (not_not_intro e)]; omega
 ·rw [if_pos e]; omega
theorem aJO (a b:Int):qW [a,b] = some (if a ≠ 0 then a else b):=by
 have h:oQ [a,b] 0 = some (N1 () (h9 (fun i=>if el [a,b] i ≠ 0 then some (el [a,b] i) else none) 0 2)):=by
  unfold oQ
  refine qM (fun i:Nat=>(i:Int)) 2 _ () ?_ ?_
  ·intro i hi
   have hl:i < [a,b].length:=hi
   simp only [mE,mN hl,if_true,eQ _ _ hl,Option.bind_some,b9 (show i < 9223372036854775807 by omega),bne_iff_ne]
   by_cases e:el [a,b] i = 0
   ·rw [if_neg (not_not_intro e),if_neg (not_not_intro e)]
   ·rw [if_pos e,if_pos e]
  ·rfl
 unfold qW
 rw [h]
 have e0:el [a,b] 0 = a:=rfl
 have e1:el [a,b] 1 = b:=rfl
 simp only [h9,e0,e1]
 by_cases c1:a = 0
 ·by_cases c2:b = 0
  ·simp [c1,c2,N1]
  ·simp [c1,c2,N1]
 ·simp [c1,N1]
def tX (f:aB) (i:Nat):Int :=
 if ¬ (0 ≤ (el f.Facts i).Kind ∧ (el f.Facts i).Kind ≤ 4) then 1
 else if ¬ (0 ≤ (el f.Facts i).At ∧ (el f.Facts i).At ≤ (f.Signs.length:Int) - 1) then 1
 else if ¬ (0 ≤ (el f.Facts i).N ∧ (el f.Facts i).N ≤ 1) then 1
 else if i = 0 then 0
 else if (el f.Facts (i - 1)).At < (el f.Facts i).At ∨ (el f.Facts (i - 1)).At = (el f.Facts i).At ∧ (el f.Facts (i - 1)).Kind < (el f.Facts i).Kind then 0 else 5
theorem aCy (f:aB) (hl:f.Signs.length ≤ 50) (ha:f.Facts.length < 1000):pB f = some (CE (tX f) f.Facts.length):=by
 have l1:nF f 0 = some (N1 () (VJ (tX f) f.Facts.length)):=by
  unfold nF
  refine CQ (step:=fun w=>gS f w) (fun k:Nat=>(k:Int)) f.Facts.length (tX f) ?_ ?_
  ·intro i hi
   simp only [gS,mN hi,if_true,eQ _ _ hi,Option.bind_some,qB,US,aJO,b9 (show i < 9223372036854775807 by omega)]
   rw [nS (show -9223372036854775808 ≤ (f.Signs.length:Int) - 1 by omega) (by omega)]
   unfold tX
   by_cases c1:0 ≤ (el f.Facts i).Kind ∧ (el f.Facts i).Kind ≤ 4
   ·by_cases c2:0 ≤ (el f.Facts i).At ∧ (el f.Facts i).At ≤ (f.Signs.length:Int) - 1
    ·by_cases c3:0 ≤ (el f.Facts i).N ∧ (el f.Facts i).N ≤ 1
     ·rw [decide_eq_true c1,decide_eq_true c2,decide_eq_true c3,if_neg (not_not_intro c1),if_neg (not_not_intro c2),if_neg (not_not_intro c3)]
      simp only [Bool.not_true,Bool.false_eq_true,if_false]
      by_cases c:i = 0
      ·subst c; rfl
      ·have c' : ((i:Int) == 0) = false:=by rw [beq_eq_false_iff_ne]; omega
       have e:IntKind.wrap .i64 ((i:Int) - 1) = ((i - 1:Nat):Int):=by rw [nS (by omega) (by omega)]; omega
       rw [c',if_neg c,e,eQ _ _ (show i - 1 < f.Facts.length by omega)]
       simp only [Bool.false_eq_true,if_false,Option.bind_some,decide_eq_true_eq]
       generalize el f.Facts (i - 1) = x
       generalize el f.Facts i = y
       by_cases d:x.At < y.At ∨ x.At = y.At ∧ x.Kind < y.Kind
       ·rw [if_neg (fun q=>(WV x.At y.At x.Kind y.Kind).1 q d),if_pos d]; rfl
       ·rw [if_pos ((WV x.At y.At x.Kind y.Kind).2 d),if_neg d]; rfl
     ·rw [decide_eq_true c1,decide_eq_true c2,decide_eq_false c3,if_neg (not_not_intro c1),if_neg (not_not_intro c2),if_pos c3]; rfl
    ·rw [decide_eq_true c1,decide_eq_false c2,if_neg (not_not_intro c1),if_pos c2]; rfl
   ·rw [decide_eq_false c1,if_pos c1]; rfl
  ·simp only [gS,oF,if_false]
 unfold pB
 rw [l1]
 exact I6 () _
def aBg (f:aB):Bool:=decide (f.Signs.length ≤ 40 ∧ f.Alters.length ≤ 4 ∧ f.Acts.length ≤ 100 ∧ f.Facts.length ≤ 200)
noncomputable def yK (r:aA) (f:aB):Int :=
 if aBg f = true then (if CF r f.Bill = 0 then (if f.Signs.length = 0 then 14 else orE (CE (m6 r f) f.Signs.length) (orE (CE (wE f) f.Alters.length) (orE (CE (uY r f) f.Acts.length) (CE (tX f) f.Facts.length)))) else CF r f.Bill) else 6
theorem GQ (r:aA) (f:aB) (bg:IG r) (w:aA.wf r):k8 r f = some (yK r f):=by
 unfold k8 yK aBg
 simp only [decide_eq_true_eq]
 by_cases h1:(f.Signs.length:Int) > 40
 ·rw [if_pos h1,if_neg (by omega)]
 by_cases h2:(f.Alters.length:Int) > 4
 ·rw [if_neg h1,if_pos h2,if_neg (by omega)]
 by_cases h3:(f.Acts.length:Int) > 100
 ·rw [if_neg h1,if_neg h2,if_pos h3,if_neg (by omega)]
 by_cases h4:(f.Facts.length:Int) > 200
 ·rw [if_neg h1,if_neg h2,if_neg h3,if_pos h4,if_neg (by omega)]
 rw [if_neg h1,if_neg h2,if_neg h3,if_neg h4,if_pos (show f.Signs.length ≤ 40 ∧ f.Alters.length ≤ 4 ∧ f.Acts.length ≤ 100 ∧ f.Facts.length ≤ 200 by omega)]
 have l1:nD r f 0 = some (N1 () (VJ (m6 r f) f.Signs.length)):=by
  unfold nD
  refine CQ (step:=fun w=>gY r f w) (fun k:Nat=>(k:Int)) f.Signs.length (m6 r f) ?_ ?_
  ·intro i hi
   simp only [gY,mN hi,if_true,aEn r f i hi (by omega) bg,Option.bind_some,b9 (show i < 9223372036854775807 by omega),bne_iff_ne,GV]
   by_cases e:m6 r f i = 0
   ·rw [if_neg (not_not_intro e),if_pos e]
   ·rw [if_pos e,if_neg e]
  ·simp only [gY,oF,if_false]
 simp only [VS r f.Bill bg w,l1,aH5 r f (by omega),aGY r f (by omega) (by omega) bg,aCy f (by omega) (by omega),Option.bind_some,bne_iff_ne,beq_iff_eq,aAi]
 by_cases c1:CF r f.Bill = 0
 ·rw [if_neg (not_not_intro c1),if_pos c1]
  by_cases c2:f.Signs.length = 0
  ·rw [if_pos (show (f.Signs.length:Int) = 0 by omega),if_pos c2]
  ·rw [if_neg (show ¬ (f.Signs.length:Int) = 0 by omega),if_neg c2]
   unfold orE
   by_cases e1:CE (m6 r f) f.Signs.length = 0
   ·rw [if_pos e1,if_pos e1]
    by_cases e2:CE (wE f) f.Alters.length = 0
    ·rw [if_pos e2,if_pos e2]
     by_cases e3:CE (uY r f) f.Acts.length = 0
     ·rw [if_neg (not_not_intro e3),if_pos e3]
     ·rw [if_pos e3,if_neg e3]
    ·rw [if_neg e2,if_neg e2]
   ·rw [if_neg e1,if_neg e1]
 ·rw [if_pos c1,if_neg c1]
theorem oU {r:aA} {f:aB}:yK r f = 0 ↔ (f.Signs.length ≤ 40 ∧ f.Alters.length ≤ 4 ∧ f.Acts.length ≤ 100 ∧ f.Facts.length ≤ 200) ∧ CF r f.Bill = 0 ∧ 0 < f.Signs.length ∧
  (∀ i,i < f.Signs.length→m6 r f i = 0) ∧ (∀ i,i < f.Alters.length→wE f i = 0) ∧ (∀ i,i < f.Acts.length→uY r f i = 0) ∧ ∀ i,i < f.Facts.length→tX f i = 0:=by
 unfold yK aBg
 simp only [decide_eq_true_eq]
 by_cases c0:f.Signs.length ≤ 40 ∧ f.Alters.length ≤ 4 ∧ f.Acts.length ≤ 100 ∧ f.Facts.length ≤ 200
 ·rw [if_pos c0]
  by_cases c1:CF r f.Bill = 0
  ·rw [if_pos c1]
   by_cases c2:f.Signs.length = 0
   ·rw [if_pos c2]
    exact ⟨fun h=>absurd h (by decide),fun h=>absurd h.2.2.1 (by omega)⟩
   ·rw [if_neg c2]
    simp only [aCY,M1]
    exact ⟨fun h=>⟨c0,c1,by omega,h.1,h.2.1,h.2.2.1,h.2.2.2⟩,fun h=>⟨h.2.2.2.1,h.2.2.2.2.1,h.2.2.2.2.2.1,h.2.2.2.2.2.2⟩⟩
  ·rw [if_neg c1]
   exact ⟨fun h=>absurd h c1,fun h=>absurd h.2.1 c1⟩
 ·rw [if_neg c0]
  exact ⟨fun h=>absurd h (by decide),fun h=>absurd h.1 c0⟩
end Go.Proofs.Ytfhebiceipgdmaa
