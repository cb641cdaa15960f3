/- What paper.Check answers, exactly: the alterations, the acts and the facts. -/
import Derived.Test.YtfhebiceipgdmaaPPaper
set_option linter.unusedVariables false
set_option linter.unusedSimpArgs false
namespace Go.Proofs.Ytfhebiceipgdmaa
open Go.RowKit Vm
def lastA (f:GFile) (k:Nat):Int:=if k = 0 then 0 else (el f.Alters (k - 1)).At
def altErr (f:GFile) (k:Nat):Int :=
 if ¬ (IntKind.wrap .i64 (lastA f k + 1) ≤ (el f.Alters k).At ∧ (el f.Alters k).At ≤ (f.Signs.length:Int)) then 1
 else if ¬ (1 ≤ (el f.Alters k).Sum ∧ (el f.Alters k).Sum ≤ 1099511627776) then 3 else 0
theorem alt_eq (r:GRealm) (f:GFile) (hl:f.Alters.length < 1000):mpaper_Check_l2 r f 0 0 = some (toS () (errO (altErr f) f.Alters.length)):=by
 unfold mpaper_Check_l2
 refine iter_errO (step:=fun w=>mpaper_Check_l2_s r f w.1 w.2) (fun k:Nat=>(lastA f k,(k:Int))) f.Alters.length (altErr f) ?_ ?_
 ·intro k hk
  have e3:lastA f (k + 1) = (el f.Alters k).At:=by unfold lastA; rw [if_neg (by omega)]; rfl
  simp only [mpaper_Check_l2_s,lt_t hk,if_true,at_el _ _ hk,Option.bind_some,in_eq12,wrap_succ (show k < 9223372036854775807 by omega),e3,altErr]
  by_cases c1:IntKind.wrap .i64 (lastA f k + 1) ≤ (el f.Alters k).At ∧ (el f.Alters k).At ≤ (f.Signs.length:Int)
  ·rw [decide_eq_true c1,if_neg (not_not_intro c1)]
   by_cases c2:1 ≤ (el f.Alters k).Sum ∧ (el f.Alters k).Sum ≤ 1099511627776
   ·rw [decide_eq_true c2,if_neg (not_not_intro c2)]; rfl
   ·rw [decide_eq_false c2,if_pos c2]; rfl
  ·rw [decide_eq_false c1,if_pos c1]; rfl
 ·simp only [mpaper_Check_l2_s,lt_f,if_false]
theorem and_inr (a b:Bool):(if a = true then (some (.inr b):Option (Unit ⊕ Bool)) else some (.inr false)) = some (.inr (a && b)):=by cases a <;> rfl
def atB (f:GFile) (a:GAct):Bool:=decide (0 ≤ a.At ∧ a.At ≤ (f.Signs.length:Int) - 1) && onB f.Signs a.At a.Part
def ownB (f:GFile) (a:GAct):Bool:=atB f a && (el f.Signs a.At.toNat).Who == a.Who
def kindA (a:GAct) (at0 own tw:Bool):Bool :=
 if a.Kind = 0 ∨ a.Kind = 1 ∨ a.Kind = 2 then tw && (a.At == -1 && a.Sum == 0)
 else if a.Kind = 3 ∨ a.Kind = 4 ∨ a.Kind = 5 then tw && (a.At == -1 && (decide (0 ≤ a.Sum ∧ a.Sum ≤ 1099511627776) && decide (0 ≤ a.Form ∧ a.Form ≤ 1)))
 else if a.Kind = 6 then tw && (own && decide (1 ≤ a.Sum ∧ a.Sum ≤ 1099511627776))
 else if a.Kind = 9 then a.To == -1 && (own && a.Sum == 0)
 else a.To == -1 && (at0 && a.Sum == 0)
def actB (r:GRealm) (f:GFile) (a:GAct):Bool :=
 decide (0 ≤ a.Who ∧ a.Who ≤ (r.Firms.length:Int) - 1) && ((a.Kind == 4 || a.Form == 0) && kindA a (atB f a) (ownB f a) (decide (0 ≤ a.To ∧ a.To ≤ (r.Firms.length:Int) - 1)))
theorem act_j4_eq (a:GAct) (p3 p5 r6:Bool):mpaper_act_j4 a p3 p5 r6 = some (kindA a p3 p5 r6):=by
 have j1:mpaper_act_j1 a p3 p5 r6 = some (if a.Kind = 6 then .inr (r6 && (p5 && decide (1 ≤ a.Sum ∧ a.Sum ≤ 1099511627776))) else if a.Kind = 9 then .inr (a.To == -1 && (p5 && a.Sum == 0)) else .inl ()):=by
  unfold mpaper_act_j1
  simp only [in_eq12,Option.bind_some,and_inr]
  by_cases k6:a.Kind = 6
  ·rw [if_pos (beq_iff_eq.2 k6),if_pos k6]
  ·rw [if_neg (fun q=>k6 (eq_of_beq q)),if_neg k6]
   by_cases k9:a.Kind = 9
   ·rw [if_pos (beq_iff_eq.2 k9),if_pos k9]
   ·rw [if_neg (fun q=>k9 (eq_of_beq q)),if_neg k9]
 have j2:mpaper_act_j2 a p3 p5 r6 = some (if a.Kind = 3 ∨ a.Kind = 4 ∨ a.Kind = 5 then .inr (r6 && (a.At == -1 && (decide (0 ≤ a.Sum ∧ a.Sum ≤ 1099511627776) && decide (0 ≤ a.Form ∧ a.Form ≤ 1)))) else if a.Kind = 6 then .inr (r6 && (p5 && decide (1 ≤ a.Sum ∧ a.Sum ≤ 1099511627776))) else if a.Kind = 9 then .inr (a.To == -1 && (p5 && a.Sum == 0)) else .inl ()):=by
  unfold mpaper_act_j2
  simp only [j1,in_eq12,Option.bind_some,and_inr]
  by_cases k3:a.Kind = 3
  ·rw [if_pos (beq_iff_eq.2 k3),if_pos (beq_iff_eq.2 k3),if_pos (show a.Kind = 3 ∨ a.Kind = 4 ∨ a.Kind = 5 from .inl k3)]
  rw [if_neg (fun q=>k3 (eq_of_beq q))]
  by_cases k5:a.Kind = 5
  ·rw [if_pos (beq_iff_eq.2 k5),if_pos (beq_iff_eq.2 k5),if_pos (show a.Kind = 3 ∨ a.Kind = 4 ∨ a.Kind = 5 from .inr (.inr k5))]
  rw [if_neg (fun q=>k5 (eq_of_beq q))]
  by_cases k4:a.Kind = 4
  ·rw [if_pos (beq_iff_eq.2 k4),if_pos (show a.Kind = 3 ∨ a.Kind = 4 ∨ a.Kind = 5 from .inr (.inl k4))]
  rw [if_neg (fun q=>k4 (eq_of_beq q)),if_neg (show ¬ (a.Kind = 3 ∨ a.Kind = 4 ∨ a.Kind = 5) by omega)]
  by_cases k6:a.Kind = 6
  ·rw [if_pos k6]; rfl
  rw [if_neg k6]
  by_cases k9:a.Kind = 9
  ·rw [if_pos k9]; rfl
  ·rw [if_neg k9]; rfl
 unfold mpaper_act_j4 mpaper_act_j3 kindA
 simp only [j2,Option.bind_some,and_if]
 by_cases k0:a.Kind = 0
 ·rw [if_pos (beq_iff_eq.2 k0),if_pos (beq_iff_eq.2 k0),if_pos (show a.Kind = 0 ∨ a.Kind = 1 ∨ a.Kind = 2 from .inl k0)]
 rw [if_neg (fun q=>k0 (eq_of_beq q))]
 by_cases k1:a.Kind = 1
 ·rw [if_pos (beq_iff_eq.2 k1),if_pos (beq_iff_eq.2 k1),if_pos (show a.Kind = 0 ∨ a.Kind = 1 ∨ a.Kind = 2 from .inr (.inl k1))]
 rw [if_neg (fun q=>k1 (eq_of_beq q))]
 by_cases k2:a.Kind = 2
 ·rw [if_pos (beq_iff_eq.2 k2),if_pos (show a.Kind = 0 ∨ a.Kind = 1 ∨ a.Kind = 2 from .inr (.inr k2))]
 rw [if_neg (fun q=>k2 (eq_of_beq q)),if_neg (show ¬ (a.Kind = 0 ∨ a.Kind = 1 ∨ a.Kind = 2) by omega)]
 by_cases k3:a.Kind = 3 ∨ a.Kind = 4 ∨ a.Kind = 5
 ·rw [if_pos k3,if_pos k3]; rfl
 rw [if_neg k3,if_neg k3]
 by_cases k6:a.Kind = 6
 ·rw [if_pos k6,if_pos k6]; rfl
 rw [if_neg k6,if_neg k6]
 by_cases k9:a.Kind = 9
 ·rw [if_pos k9,if_pos k9]; rfl
 ·rw [if_neg k9,if_neg k9]; rfl
theorem act_eq12 (r:GRealm) (f:GFile) (a:GAct) (hl:f.Signs.length ≤ 50) (bg:BigL r):mpaper_act r f a = some (actB r f a):=by
 have hf:=bg.frm
 have j5:∀ p3 p5,mpaper_act_j5 r a p3 p5 = some (decide (0 ≤ a.Who ∧ a.Who ≤ (r.Firms.length:Int) - 1) && ((a.Kind == 4 || a.Form == 0) && kindA a p3 p5 (decide (0 ≤ a.To ∧ a.To ≤ (r.Firms.length:Int) - 1)))):=by
  intro p3 p5
  unfold mpaper_act_j5
  simp only [in_eq12,act_j4_eq,Option.bind_some]
  rw [wrap_id (show -9223372036854775808 ≤ (r.Firms.length:Int) - 1 by omega) (by omega)]
  generalize kindA a p3 p5 _ = z
  generalize decide (0 ≤ a.Who ∧ a.Who ≤ (r.Firms.length:Int) - 1) = y
  by_cases c1:a.Kind = 4 <;> by_cases c2:a.Form = 0 <;> cases y <;> simp [c1,c2]
 unfold mpaper_act actB
 simp only [in_eq12,Option.bind_some]
 rw [wrap_id (show -9223372036854775808 ≤ (f.Signs.length:Int) - 1 by omega) (by omega)]
 by_cases c:0 ≤ a.At ∧ a.At ≤ (f.Signs.length:Int) - 1
 ·have h1:atB f a = onB f.Signs a.At a.Part:=by unfold atB; rw [decide_eq_true c,Bool.true_and]
  rw [decide_eq_true c,if_pos rfl,stands_eq f _ _ (.inr ⟨c.1,by omega⟩),Option.bind_some]
  have j6:mpaper_act_j6 r f a (onB f.Signs a.At a.Part) = mpaper_act_j5 r a (atB f a) (ownB f a):=by
   unfold mpaper_act_j6 ownB
   rw [h1,at_eq _ _ c.1 (by omega)]
   simp only [j5,Option.bind_some]
   cases onB f.Signs a.At a.Part <;> rfl
  rw [j6,j5]; rfl
 ·have h1:atB f a = false:=by unfold atB; rw [decide_eq_false c,Bool.false_and]
  have h2:ownB f a = false:=by unfold ownB; rw [h1,Bool.false_and]
  rw [decide_eq_false c,if_neg (by decide),h1,h2]
  unfold mpaper_act_j6
  simp only [j5,Option.bind_some,Bool.false_eq_true,if_false]
def dayA (f:GFile) (a:GAct):Int:=if a.At ≠ -1 then (if (el f.Signs a.At.toNat).Day > f.Bill.Day then (el f.Signs a.At.toNat).Day else f.Bill.Day) else f.Bill.Day
def firstA (f:GFile) (i:Nat):Int:=if 0 < i then (if (el f.Acts (i - 1)).Day > dayA f (el f.Acts i) then (el f.Acts (i - 1)).Day else dayA f (el f.Acts i)) else dayA f (el f.Acts i)
def actErr (r:GRealm) (f:GFile) (i:Nat):Int :=
 if ¬ (0 ≤ (el f.Acts i).Part ∧ (el f.Acts i).Part ≤ hiP f.Bill) then 15
 else if ¬ (0 ≤ (el f.Acts i).City ∧ (el f.Acts i).City ≤ (r.Cities.length:Int) - 1) then 1
 else if ¬ (0 ≤ (el f.Acts i).Kind ∧ (el f.Acts i).Kind ≤ 9) then 1
 else if actB r f (el f.Acts i) = false then 14
 else if ¬ (firstA f i ≤ (el f.Acts i).Day ∧ (el f.Acts i).Day ≤ 100000) then 13 else 0
theorem act_at {r:GRealm} {f:GFile} {a:GAct} (h:actB r f a = true):a.At = -1 ∨ 0 ≤ a.At ∧ a.At < f.Signs.length:=by
 unfold actB at h
 simp only [Bool.and_eq_true] at h
 have h:=h.2.2
 have hat:atB f a = true→0 ≤ a.At ∧ a.At < f.Signs.length:=by
  intro q
  unfold atB at q
  rw [Bool.and_eq_true,decide_eq_true_eq] at q
  omega
 have hown:ownB f a = true→0 ≤ a.At ∧ a.At < f.Signs.length:=by
  intro q
  unfold ownB at q
  rw [Bool.and_eq_true] at q
  exact hat q.1
 unfold kindA at h
 split at h
 ·simp only [Bool.and_eq_true,beq_iff_eq] at h; exact .inl h.2.1
 split at h
 ·simp only [Bool.and_eq_true,beq_iff_eq] at h; exact .inl h.2.1
 split at h
 ·simp only [Bool.and_eq_true] at h; exact .inr (hown h.2.1)
 split at h
 ·simp only [Bool.and_eq_true] at h; exact .inr (hown h.2.1)
 ·simp only [Bool.and_eq_true] at h; exact .inr (hat h.2.1)
theorem day_end (n:Nat) (m d:Int):Sum.elim (fun _=>some (.inl (n:Int))) (fun _=>some (.inr (.inr 13))) (if m ≤ d ∧ d ≤ 100000 then (.inl ():Unit ⊕ Unit) else .inr ()) = some (errS (n:Int) (if ¬ (m ≤ d ∧ d ≤ 100000) then 13 else 0)):=by
 by_cases h:m ≤ d ∧ d ≤ 100000
 ·rw [if_pos h,if_neg (not_not_intro h)]; rfl
 ·rw [if_neg h,if_pos h]; rfl
theorem acts_eq (r:GRealm) (f:GFile) (hl:f.Signs.length ≤ 50) (ha:f.Acts.length < 1000) (bg:BigL r):mpaper_acts r f = some (errN (actErr r f) f.Acts.length):=by
 have hc:=bg.cit
 have l3:mpaper_acts_l3 r f 0 = some (toS () (errO (actErr r f) f.Acts.length)):=by
  unfold mpaper_acts_l3
  refine iter_errO (step:=fun w=>mpaper_acts_l3_s r f w) (fun k:Nat=>(k:Int)) f.Acts.length (actErr r f) ?_ ?_
  ·intro i hi
   simp only [mpaper_acts_l3_s,lt_t hi,if_true,at_el _ _ hi,Option.bind_some,in_eq12,act_eq12 r f _ hl bg,wrap_succ (show i < 9223372036854775807 by omega)]
   rw [wrap_id (show -9223372036854775808 ≤ (r.Cities.length:Int) - 1 by omega) (by omega)]
   have hj2:∀ p,mpaper_acts_j2 r f i (el f.Acts i) p = some (if (if 0 < i then (if (el f.Acts (i - 1)).Day > p then (el f.Acts (i - 1)).Day else p) else p) ≤ (el f.Acts i).Day ∧ (el f.Acts i).Day ≤ 100000 then .inl () else .inr ()):=by
    intro p
    unfold mpaper_acts_j2 mpaper_acts_j1
    simp only [in_eq12,Option.bind_some]
    by_cases c:0 < i
    ·have e:IntKind.wrap .i64 ((i:Int) - 1) = ((i - 1:Nat):Int):=by rw [wrap_id (by omega) (by omega)]; omega
     rw [if_pos (decide_eq_true (show (i:Int) > 0 by omega)),e,at_el _ _ (show i - 1 < f.Acts.length by omega),Option.bind_some,if_pos c]
     generalize (if (el f.Acts (i - 1)).Day > p then (el f.Acts (i - 1)).Day else p) = m
     by_cases d:m ≤ (el f.Acts i).Day ∧ (el f.Acts i).Day ≤ 100000
     ·rw [decide_eq_true d,if_pos d]; rfl
     ·rw [decide_eq_false d,if_neg d]; rfl
    ·rw [if_neg (fun q=>absurd (of_decide_eq_true q) (by omega)),if_neg c]
     by_cases d:p ≤ (el f.Acts i).Day ∧ (el f.Acts i).Day ≤ 100000
     ·rw [decide_eq_true d,if_pos d]; rfl
     ·rw [decide_eq_false d,if_neg d]; rfl
   simp only [hj2,Option.bind_some]
   have hat:=act_at (r:=r) (f:=f) (a:=el f.Acts i)
   unfold actErr firstA dayA
   generalize el f.Acts i = a at hat ⊢
   show (if (!decide (0 ≤ a.Part ∧ a.Part ≤ hiP f.Bill)) = true then _ else _) = _
   by_cases c1:0 ≤ a.Part ∧ a.Part ≤ hiP f.Bill
   ·by_cases c2:0 ≤ a.City ∧ a.City ≤ (r.Cities.length:Int) - 1
    ·by_cases c3:0 ≤ a.Kind ∧ a.Kind ≤ 9
     ·rw [decide_eq_true c1,decide_eq_true c2,decide_eq_true c3,if_neg (not_not_intro c1),if_neg (not_not_intro c2),if_neg (not_not_intro c3)]
      simp only [Bool.not_true,Bool.false_eq_true,if_false]
      cases c4:actB r f a with
      | false=>rfl
      | true =>
       simp only [Bool.not_true,Bool.false_eq_true,if_false]
       by_cases c5:a.At = -1
       ·have c5' : (a.At != -1) = false:=by simp [c5]
        rw [c5',if_neg (not_not_intro c5)]
        simp only [Bool.false_eq_true,if_false]
        rw [if_neg (show ¬ (true = false) by decide)]
        exact day_end _ _ _
       ·have c5' : (a.At != -1) = true:=by simp [c5]
        rw [c5',if_pos c5,at_eq _ _ ((hat c4).resolve_left c5).1 ((hat c4).resolve_left c5).2]
        simp only [if_true,Option.bind_some]
        rw [if_neg (show ¬ (true = false) by decide)]
        exact day_end _ _ _
     ·rw [decide_eq_true c1,decide_eq_true c2,decide_eq_false c3,if_neg (not_not_intro c1),if_neg (not_not_intro c2),if_pos c3]; rfl
    ·rw [decide_eq_true c1,decide_eq_false c2,if_neg (not_not_intro c1),if_pos c2]; rfl
   ·rw [decide_eq_false c1,if_pos c1]; rfl
  ·simp only [mpaper_acts_l3_s,lt_f,if_false]
 unfold mpaper_acts
 rw [l3]
 exact elim_err () _
def cmpI (a b:Int):Int:=if a < b then -1 else if a > b then 1 else 0
theorem compare_eq (a b:Int):mcmp_Compare_int a b = some (cmpI a b):=by
 unfold mcmp_Compare_int mcmp_isNaN_int cmpI
 simp only [bne_self_eq_false,Option.bind_some,Bool.false_eq_true,if_false,decide_eq_true_eq]
 split
 ·rfl
 ·split <;> rfl
theorem cmp_cases (a b:Int):cmpI a b = -1 ∧ a < b ∨ cmpI a b = 1 ∧ a > b ∨ cmpI a b = 0 ∧ a = b:=by
 unfold cmpI
 by_cases p:a < b
 ·exact .inl ⟨if_pos p,p⟩
 ·rw [if_neg p]
  by_cases q:a > b
  ·exact .inr (.inl ⟨if_pos q,q⟩)
  ·exact .inr (.inr ⟨if_neg q,by omega⟩)
theorem cmp_end (a b c d:Int):((if cmpI a b ≠ 0 then cmpI a b else cmpI c d) ≥ 0) ↔ ¬ (a < b ∨ a = b ∧ c < d):=by
 have h1:=cmp_cases a b
 have h2:=cmp_cases c d
 by_cases e:cmpI a b = 0
 ·rw [if_neg (not_not_intro e)]; omega
 ·rw [if_pos e]; omega
theorem or_eq (a b:Int):mcmp_Or_int [a,b] = some (if a ≠ 0 then a else b):=by
 have h:mcmp_Or_int_l1 [a,b] 0 = some (toS () (firstO (fun i=>if el [a,b] i ≠ 0 then some (el [a,b] i) else none) 0 2)):=by
  unfold mcmp_Or_int_l1
  refine iter_first (fun i:Nat=>(i:Int)) 2 _ () ?_ ?_
  ·intro i hi
   have hl:i < [a,b].length:=hi
   simp only [mcmp_Or_int_l1_s,lt_t hl,if_true,at_el _ _ hl,Option.bind_some,wrap_succ (show i < 9223372036854775807 by omega),bne_iff_ne]
   by_cases e:el [a,b] i = 0
   ·rw [if_neg (not_not_intro e),if_neg (not_not_intro e)]
   ·rw [if_pos e,if_pos e]
  ·rfl
 unfold mcmp_Or_int
 rw [h]
 have e0:el [a,b] 0 = a:=rfl
 have e1:el [a,b] 1 = b:=rfl
 simp only [firstO,e0,e1]
 by_cases c1:a = 0
 ·by_cases c2:b = 0
  ·simp [c1,c2,toS]
  ·simp [c1,c2,toS]
 ·simp [c1,toS]
def factErr (f:GFile) (i:Nat):Int :=
 if ¬ (0 ≤ (el f.Facts i).Kind ∧ (el f.Facts i).Kind ≤ 4) then 1
 else if ¬ (0 ≤ (el f.Facts i).At ∧ (el f.Facts i).At ≤ (f.Signs.length:Int) - 1) then 1
 else if ¬ (0 ≤ (el f.Facts i).N ∧ (el f.Facts i).N ≤ 1) then 1
 else if i = 0 then 0
 else if (el f.Facts (i - 1)).At < (el f.Facts i).At ∨ (el f.Facts (i - 1)).At = (el f.Facts i).At ∧ (el f.Facts (i - 1)).Kind < (el f.Facts i).Kind then 0 else 5
theorem facts_eq (f:GFile) (hl:f.Signs.length ≤ 50) (ha:f.Facts.length < 1000):mpaper_facts f = some (errN (factErr f) f.Facts.length):=by
 have l1:mpaper_facts_l1 f 0 = some (toS () (errO (factErr f) f.Facts.length)):=by
  unfold mpaper_facts_l1
  refine iter_errO (step:=fun w=>mpaper_facts_l1_s f w) (fun k:Nat=>(k:Int)) f.Facts.length (factErr f) ?_ ?_
  ·intro i hi
   simp only [mpaper_facts_l1_s,lt_t hi,if_true,at_el _ _ hi,Option.bind_some,in_eq12,compare_eq,or_eq,wrap_succ (show i < 9223372036854775807 by omega)]
   rw [wrap_id (show -9223372036854775808 ≤ (f.Signs.length:Int) - 1 by omega) (by omega)]
   unfold factErr
   by_cases c1:0 ≤ (el f.Facts i).Kind ∧ (el f.Facts i).Kind ≤ 4
   ·by_cases c2:0 ≤ (el f.Facts i).At ∧ (el f.Facts i).At ≤ (f.Signs.length:Int) - 1
    ·by_cases c3:0 ≤ (el f.Facts i).N ∧ (el f.Facts i).N ≤ 1
     ·rw [decide_eq_true c1,decide_eq_true c2,decide_eq_true c3,if_neg (not_not_intro c1),if_neg (not_not_intro c2),if_neg (not_not_intro c3)]
      simp only [Bool.not_true,Bool.false_eq_true,if_false]
      by_cases c:i = 0
      ·subst c; rfl
      ·have c' : ((i:Int) == 0) = false:=by rw [beq_eq_false_iff_ne]; omega
       have e:IntKind.wrap .i64 ((i:Int) - 1) = ((i - 1:Nat):Int):=by rw [wrap_id (by omega) (by omega)]; omega
       rw [c',if_neg c,e,at_el _ _ (show i - 1 < f.Facts.length by omega)]
       simp only [Bool.false_eq_true,if_false,Option.bind_some,decide_eq_true_eq]
       generalize el f.Facts (i - 1) = x
       generalize el f.Facts i = y
       by_cases d:x.At < y.At ∨ x.At = y.At ∧ x.Kind < y.Kind
       ·rw [if_neg (fun q=>(cmp_end x.At y.At x.Kind y.Kind).1 q d),if_pos d]; rfl
       ·rw [if_pos ((cmp_end x.At y.At x.Kind y.Kind).2 d),if_neg d]; rfl
     ·rw [decide_eq_true c1,decide_eq_true c2,decide_eq_false c3,if_neg (not_not_intro c1),if_neg (not_not_intro c2),if_pos c3]; rfl
    ·rw [decide_eq_true c1,decide_eq_false c2,if_neg (not_not_intro c1),if_pos c2]; rfl
   ·rw [decide_eq_false c1,if_pos c1]; rfl
  ·simp only [mpaper_facts_l1_s,lt_f,if_false]
 unfold mpaper_facts
 rw [l1]
 exact elim_err () _
def fullB (f:GFile):Bool:=decide (f.Signs.length ≤ 40 ∧ f.Alters.length ≤ 4 ∧ f.Acts.length ≤ 100 ∧ f.Facts.length ≤ 200)
noncomputable def checkP (r:GRealm) (f:GFile):Int :=
 if fullB f = true then (if wordOf r f.Bill = 0 then (if f.Signs.length = 0 then 14 else orE (errN (signErr r f) f.Signs.length) (orE (errN (altErr f) f.Alters.length) (orE (errN (actErr r f) f.Acts.length) (errN (factErr f) f.Facts.length)))) else wordOf r f.Bill) else 6
theorem checkP_eq (r:GRealm) (f:GFile) (bg:BigL r) (w:GRealm.wf r):mpaper_Check r f = some (checkP r f):=by
 unfold mpaper_Check checkP fullB
 simp only [decide_eq_true_eq]
 by_cases h1:(f.Signs.length:Int) > 40
 ·rw [if_pos h1,if_neg (by omega)]
 by_cases h2:(f.Alters.length:Int) > 4
 ·rw [if_neg h1,if_pos h2,if_neg (by omega)]
 by_cases h3:(f.Acts.length:Int) > 100
 ·rw [if_neg h1,if_neg h2,if_pos h3,if_neg (by omega)]
 by_cases h4:(f.Facts.length:Int) > 200
 ·rw [if_neg h1,if_neg h2,if_neg h3,if_pos h4,if_neg (by omega)]
 rw [if_neg h1,if_neg h2,if_neg h3,if_neg h4,if_pos (show f.Signs.length ≤ 40 ∧ f.Alters.length ≤ 4 ∧ f.Acts.length ≤ 100 ∧ f.Facts.length ≤ 200 by omega)]
 have l1:mpaper_Check_l1 r f 0 = some (toS () (errO (signErr r f) f.Signs.length)):=by
  unfold mpaper_Check_l1
  refine iter_errO (step:=fun w=>mpaper_Check_l1_s r f w) (fun k:Nat=>(k:Int)) f.Signs.length (signErr r f) ?_ ?_
  ·intro i hi
   simp only [mpaper_Check_l1_s,lt_t hi,if_true,sign_eq r f i hi (by omega) bg,Option.bind_some,wrap_succ (show i < 9223372036854775807 by omega),bne_iff_ne,errS]
   by_cases e:signErr r f i = 0
   ·rw [if_neg (not_not_intro e),if_pos e]
   ·rw [if_pos e,if_neg e]
  ·simp only [mpaper_Check_l1_s,lt_f,if_false]
 simp only [word_eq r f.Bill bg w,l1,alt_eq r f (by omega),acts_eq r f (by omega) (by omega) bg,facts_eq f (by omega) (by omega),Option.bind_some,bne_iff_ne,beq_iff_eq,elim_errO]
 by_cases c1:wordOf r f.Bill = 0
 ·rw [if_neg (not_not_intro c1),if_pos c1]
  by_cases c2:f.Signs.length = 0
  ·rw [if_pos (show (f.Signs.length:Int) = 0 by omega),if_pos c2]
  ·rw [if_neg (show ¬ (f.Signs.length:Int) = 0 by omega),if_neg c2]
   unfold orE
   by_cases e1:errN (signErr r f) f.Signs.length = 0
   ·rw [if_pos e1,if_pos e1]
    by_cases e2:errN (altErr f) f.Alters.length = 0
    ·rw [if_pos e2,if_pos e2]
     by_cases e3:errN (actErr r f) f.Acts.length = 0
     ·rw [if_neg (not_not_intro e3),if_pos e3]
     ·rw [if_pos e3,if_neg e3]
    ·rw [if_neg e2,if_neg e2]
   ·rw [if_neg e1,if_neg e1]
 ·rw [if_pos c1,if_neg c1]
theorem checkP_zero {r:GRealm} {f:GFile}:checkP r f = 0 ↔ (f.Signs.length ≤ 40 ∧ f.Alters.length ≤ 4 ∧ f.Acts.length ≤ 100 ∧ f.Facts.length ≤ 200) ∧ wordOf r f.Bill = 0 ∧ 0 < f.Signs.length ∧
  (∀ i,i < f.Signs.length→signErr r f i = 0) ∧ (∀ i,i < f.Alters.length→altErr f i = 0) ∧ (∀ i,i < f.Acts.length→actErr r f i = 0) ∧ ∀ i,i < f.Facts.length→factErr f i = 0:=by
 unfold checkP fullB
 simp only [decide_eq_true_eq]
 by_cases c0:f.Signs.length ≤ 40 ∧ f.Alters.length ≤ 4 ∧ f.Acts.length ≤ 100 ∧ f.Facts.length ≤ 200
 ·rw [if_pos c0]
  by_cases c1:wordOf r f.Bill = 0
  ·rw [if_pos c1]
   by_cases c2:f.Signs.length = 0
   ·rw [if_pos c2]
    exact ⟨fun h=>absurd h (by decide),fun h=>absurd h.2.2.1 (by omega)⟩
   ·rw [if_neg c2]
    simp only [orE_zero,errN_zero]
    exact ⟨fun h=>⟨c0,c1,by omega,h.1,h.2.1,h.2.2.1,h.2.2.2⟩,fun h=>⟨h.2.2.2.1,h.2.2.2.2.1,h.2.2.2.2.2.1,h.2.2.2.2.2.2⟩⟩
  ·rw [if_neg c1]
   exact ⟨fun h=>absurd h c1,fun h=>absurd h.2.1 c1⟩
 ·rw [if_neg c0]
  exact ⟨fun h=>absurd h (by decide),fun h=>absurd h.1 c0⟩
end Go.Proofs.Ytfhebiceipgdmaa
