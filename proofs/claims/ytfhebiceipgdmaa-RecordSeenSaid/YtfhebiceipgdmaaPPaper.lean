/- What paper.Check answers, exactly: the bill and the signatures. -/
import Derived.Test.YtfhebiceipgdmaaPReal9b
import Derived.Test.YtfhebiceipgdmaaPLaw12
set_option linter.unusedVariables false
set_option linter.unusedSimpArgs false
namespace Go.Proofs.Ytfhebiceipgdmaa
open Go.RowKit Vm
theorem UO (a b:Bool):(if a = true then some b else some false) = some (a && b):=by cases a <;> rfl
theorem CX (a n:Int):eH a n = some (decide (0 ≤ a ∧ a < n)):=by
 unfold eH
 by_cases h:a ≥ 0
 ·rw [if_pos (decide_eq_true h)]; simp [show 0 ≤ a from h]
 ·rw [if_neg (fun q=>h (of_decide_eq_true q)),decide_eq_false (fun q=>h q.1)]
theorem OG (b:bD):∃ x,kF b = some x:=by
 have j1:∃ x,jC b = some x:=by unfold jC; (repeat' split) <;> exact ⟨_,rfl⟩
 obtain ⟨x,hx⟩:=j1
 have j2:∃ y,jL b = some y:=by
  unfold jL
  simp only [hx,Option.bind_some]
  cases x <;> simp only [Sum.elim_inl,Sum.elim_inr] <;> (repeat' split) <;> exact ⟨_,rfl⟩
 obtain ⟨y,hy⟩:=j2
 unfold kF
 simp only [hy,Option.bind_some]
 cases y <;> simp only [Sum.elim_inl,Sum.elim_inr] <;> (repeat' split) <;> exact ⟨_,rfl⟩
theorem R4 (r:aA) (b:bD) (bg:IG r) (w:aA.wf r):∃ x,gB r b = some x:=by
 obtain ⟨t,ht⟩:=OG b
 have j1:∃ x,lB r b = some x:=by
  unfold lB
  simp only [ht,Option.bind_some]
  (repeat' split) <;> exact ⟨_,rfl⟩
 obtain ⟨x1,h1⟩:=j1
 have j2:∃ x,kV r b = some x:=by
  unfold kV
  simp only [h1,Option.bind_some]
  cases x1 <;> simp only [Sum.elim_inl,Sum.elim_inr] <;> (repeat' split) <;> exact ⟨_,rfl⟩
 obtain ⟨x2,h2⟩:=j2
 have j3:∃ x,hY r b = some x:=by
  unfold hY
  simp only [h2,Option.bind_some]
  cases x2 <;> simp only [Sum.elim_inl,Sum.elim_inr] <;> (repeat' split) <;> exact ⟨_,rfl⟩
 obtain ⟨x3,h3⟩:=j3
 have hu:=bg.usa
 have j4:∀ p,∃ x,cV r b p = some x:=by
  intro p
  unfold cV
  simp only [h3,CX,XN r b.City b.Pay (by omega),Option.bind_some]
  cases x3 <;> simp only [Sum.elim_inl,Sum.elim_inr] <;> (repeat' split) <;> exact ⟨_,rfl⟩
 obtain ⟨g,hg⟩:=Classical.axiomOfChoice j4
 unfold gB
 simp only [MZ r bg w,CX,hg,Option.bind_some]
 (repeat' split) <;> exact ⟨_,rfl⟩
noncomputable def CF (r:aA) (b:bD):Int:=(gB r b).getD 0
theorem VS (r:aA) (b:bD) (bg:IG r) (w:aA.wf r):gB r b = some (CF r b):=by
 obtain ⟨x,hx⟩:=R4 r b bg w
 unfold CF
 rw [hx]; rfl
def onB (S:List aO) (n part:Int):Bool:=n == 0 || (el S n.toNat).Part == part
theorem MY (f:aB) (n part:Int) (h:n = 0 ∨ 0 ≤ n ∧ n < f.Signs.length):lE f n part = some (onB f.Signs n part):=by
 unfold lE onB
 by_cases h0:n = 0
 ·subst h0; rfl
 ·have h0' : (n == 0) = false:=by simpa using h0
  rw [if_neg (by simpa using h0),VW _ _ (by omega) (by omega),h0']; rfl
theorem N7 (l:List Int) (x:Int) (hl:l.length < 1000):fC l x = some (decide (x ∈ l)):=by
 have h1:gE l x 0 = some (N1 () (h9 (fun i=>if x = el l i then some (i:Int) else none) 0 l.length)):=by
  unfold gE
  refine qM (fun i:Nat=>(i:Int)) l.length _ () ?_ ?_
  ·intro i hi
   simp only [eJ,mN hi,if_true,eQ _ _ hi,Option.bind_some,b9 (show i < 9223372036854775807 by omega),beq_iff_eq]
   by_cases e:x = el l i
   ·rw [if_pos e,if_pos e]
   ·rw [if_neg e,if_neg e]
  ·simp only [eJ,oF,if_false]
 unfold fC iL
 rw [h1]
 cases h:h9 (fun i=>if x = el l i then some (i:Int) else none) 0 l.length with
 | none =>
  have:¬ x ∈ l:=fun hm=>by
   obtain ⟨i,hi,e⟩:=B4 hm
   have:=(kU _ 0).1 h i (Nat.zero_le _) (by omega)
   rw [if_pos e.symm] at this; cases this
  rw [decide_eq_false this]
  rfl
 | some k =>
  obtain ⟨i,_,h2,h3,_⟩:=qX _ 0 h
  split at h3
  ·rename_i e
   cases h3
   have:x ∈ l:=by rw [e]; exact F3 _ i (by omega)
   rw [decide_eq_true this]
   simp [N1]
  ·cases h3
def JB (S:List aO) (i:Nat) (kinds:List Int):Bool:=decide (0 ≤ (el S i).For ∧ (el S i).For ≤ (i:Int) - 1) && (onB S (el S i).For (el S i).Part && decide ((el S (el S i).For.toNat).Kind ∈ kinds))
theorem RL (f:aB) (i:Nat) (hi:i < f.Signs.length) (hl:f.Signs.length ≤ 50) (kinds:List Int) (hk:kinds.length < 1000):nA f i kinds = some (JB f.Signs i kinds):=by
 unfold nA JB
 simp only [eQ _ _ hi,Option.bind_some,qB]
 rw [nS (by omega) (by omega)]
 by_cases h:0 ≤ (el f.Signs i).For ∧ (el f.Signs i).For ≤ (i:Int) - 1
 ·rw [if_pos (decide_eq_true h),decide_eq_true h,MY f _ _ (.inr ⟨h.1,by omega⟩),VW _ _ h.1 (by omega)]
  simp only [Option.bind_some,N7 _ _ hk,UO,Bool.true_and]
 ·rw [if_neg (fun q=>h (of_decide_eq_true q)),decide_eq_false h]; rfl
def aLl (x:Int):Bool:=(IntKind.wrap .i64 (BitVec.ofInt (IntKind.bits .i64) x ||| BitVec.ofInt (IntKind.bits .i64) 1).toNat) == 1
def aKq (x:Int):Bool:=(IntKind.wrap .i64 (BitVec.ofInt (IntKind.bits .i64) x &&& BitVec.ofInt (IntKind.bits .i64) 6).toNat) != 6
def F1 (r:aA) (f:aB) (i:Nat) (p2:Bool) (s:aO) (p4:Bool):Bool :=
 if s.Kind = 0 then (s.Who == f.Bill.Drawer && (s.Sum == 0 && (aLl s.Flags && (s.Part == 0 && (s.Day == f.Bill.Day && s.City == f.Bill.City)))))
 else if s.Kind = 1 then (s.Who == f.Bill.Drawee && p4)
 else if s.Kind = 2 then (decide (-1 ≤ s.To ∧ s.To ≤ (r.Firms.length:Int) - 1) && (s.Sum == 0 && (decide (0 ≤ s.Flags ∧ s.Flags ≤ 7) && aKq s.Flags)))
 else if s.Kind = 3 then (p2 && JB f.Signs i [0,1,2,4])
 else if s.Kind = 4 then (p4 && (s.Who != f.Bill.Drawee && JB f.Signs i [0,2]))
 else false
theorem U7 (r:aA) (f:aB) (i:Nat) (hi:i < f.Signs.length) (hl:f.Signs.length ≤ 50) (bg:IG r) (p2 p4:Bool):mF r f i p2 (el f.Signs i) p4 = some (F1 r f i p2 (el f.Signs i) p4):=by
 have hf:=bg.frm
 unfold mF F1
 simp only [qB,RL f i hi hl [0,1,2,4] (by decide),RL f i hi hl [0,2] (by decide),Option.bind_some,UO]
 rw [nS (show -9223372036854775808 ≤ (r.Firms.length:Int) - 1 by omega) (by omega)]
 generalize el f.Signs i = s
 by_cases k0:s.Kind = 0
 ·simp only [k0,beq_self_eq_true,if_true]; rfl
 by_cases k1:s.Kind = 1
 ·simp [k1]
 by_cases k2:s.Kind = 2
 ·simp only [k2]; rfl
 by_cases k3:s.Kind = 3
 ·simp [k3]
 by_cases k4:s.Kind = 4
 ·simp [k4]
 ·simp [k0,k1,k2,k3,k4]
def aAF (r:aA) (f:aB) (i:Nat):Bool :=
 (((i:Int) == 0) == ((el f.Signs i).Kind == 0)) && (((el f.Signs i).Kind == 2 || (el f.Signs i).To == -1) && (((el f.Signs i).Kind == 3 || ((el f.Signs i).Kind == 4 || (el f.Signs i).For == -1)) &&
  F1 r f i ((el f.Signs i).Sum == 0 && (el f.Signs i).Flags == 0) (el f.Signs i) (decide (1 ≤ (el f.Signs i).Sum ∧ (el f.Signs i).Sum ≤ 1099511627776) && (el f.Signs i).Flags == 0)))
theorem Y2 (r:aA) (f:aB) (i:Nat) (hi:i < f.Signs.length) (hl:f.Signs.length ≤ 50) (bg:IG r):oO r f i = some (aAF r f i):=by
 unfold oO aAF
 simp only [eQ _ _ hi,Option.bind_some]
 have hj1:=U7 r f i hi hl bg
 generalize el f.Signs i = s at hj1 ⊢
 have hj2:∀ p2,lZ r f i s p2 = some (F1 r f i p2 s (decide (1 ≤ s.Sum ∧ s.Sum ≤ 1099511627776) && s.Flags == 0)):=by
  intro p2
  unfold lZ
  simp only [qB,hj1,Option.bind_some]
  cases decide (1 ≤ s.Sum ∧ s.Sum ≤ 1099511627776) <;> rfl
 have hj3:kE r f i s = some (F1 r f i (s.Sum == 0 && s.Flags == 0) s (decide (1 ≤ s.Sum ∧ s.Sum ≤ 1099511627776) && s.Flags == 0)):=by
  unfold kE
  simp only [hj2,Option.bind_some]
  cases s.Sum == 0 <;> rfl
 have hj4:mC r f i s = some ((s.Kind == 3 || (s.Kind == 4 || s.For == -1)) && F1 r f i (s.Sum == 0 && s.Flags == 0) s (decide (1 ≤ s.Sum ∧ s.Sum ≤ 1099511627776) && s.Flags == 0)):=by
  unfold mC
  simp only [hj3,Option.bind_some,bne]
  cases s.Kind == 3 <;> cases s.Kind == 4 <;> cases s.For == -1 <;> simp
 simp only [hj4,Option.bind_some,bne]
 cases ((i:Int) == 0) == (s.Kind == 0) <;> cases s.Kind == 2 <;> cases s.To == -1 <;> simp
def twB (S:List aO) (s:aO) (k:Nat):Bool:=(S.take k).any fun x=>s.Kind == 1 && (x.Kind == 1 && x.Part == s.Part)
def lK (f:aB) (k:Nat):Int:=if k = 0 then f.Bill.Day else (el f.Signs (k - 1)).Day
def hiP (b:bD):Int:=IntKind.wrap .i64 (b.Parts - 1)
def m6 (r:aA) (f:aB) (i:Nat):Int :=
 if ¬ (0 ≤ (el f.Signs i).Part ∧ (el f.Signs i).Part ≤ hiP f.Bill) then 15
 else if ¬ (0 ≤ (el f.Signs i).Who ∧ (el f.Signs i).Who ≤ (r.Firms.length:Int) - 1) then 1
 else if ¬ (0 ≤ (el f.Signs i).City ∧ (el f.Signs i).City ≤ (r.Cities.length:Int) - 1) then 1
 else if ¬ (lK f i ≤ (el f.Signs i).Day ∧ (el f.Signs i).Day ≤ 100000) then 13
 else if i = 0 ∧ (el f.Signs i).Day ≠ lK f i then 13
 else if aAF r f i = false then 14
 else if twB f.Signs (el f.Signs i) i = true then 5 else 0
theorem aEn (r:aA) (f:aB) (i:Nat) (hi:i < f.Signs.length) (hl:f.Signs.length ≤ 50) (bg:IG r):qN r f i = some (m6 r f i):=by
 have hf:=bg.frm
 have hc:=bg.cit
 have l1:oH r f i (el f.Signs i) f.Bill.Day false 0 = some (lK f i,twB f.Signs (el f.Signs i) i):=by
  have hsl:(dB f.Signs 0 (i:Int)).length = i:=by simp [dB]; omega
  unfold oH
  refine fB (step:=fun w=>iP r f i (el f.Signs i) w.1 w.2.1 w.2.2) (fun k:Nat=>(lK f k,twB f.Signs (el f.Signs i) k,(k:Int))) i (lK f i,twB f.Signs (el f.Signs i) i) ?_ ?_
  ·intro k hk
   have e1:el (dB f.Signs 0 (i:Int)) k = el f.Signs k:=by rw [vL _ _ (by omega),vL _ _ (by omega)]; simp [dB]
   have e2:twB f.Signs (el f.Signs i) (k + 1) = (twB f.Signs (el f.Signs i) k || ((el f.Signs i).Kind == 1 && ((el f.Signs k).Kind == 1 && (el f.Signs k).Part == (el f.Signs i).Part))):=by
    unfold twB
    rw [Z3 _ _ (by omega),List.any_append]
    simp
   have e3:lK f (k + 1) = (el f.Signs k).Day:=by unfold lK; rw [if_neg (by omega)]; rfl
   simp only [iP,hsl,mN hk,if_true,eQ (dB f.Signs 0 (i:Int)) k (by omega),e1,e2,e3,Option.bind_some,b9 (show k < 9223372036854775807 by omega)]
   cases twB f.Signs (el f.Signs i) k
   ·cases (el f.Signs i).Kind == 1 <;> cases (el f.Signs k).Kind == 1 <;> rfl
   ·rfl
  ·simp only [iP,hsl,oF,if_false]
 unfold qN m6
 simp only [eQ _ _ hi,Option.bind_some,qB,l1,Y2 r f i hi hl bg]
 rw [nS (show -9223372036854775808 ≤ (r.Firms.length:Int) - 1 by omega) (by omega),nS (show -9223372036854775808 ≤ (r.Cities.length:Int) - 1 by omega) (by omega),if_pos (show fW f.Signs.length 0 (i:Int) from ⟨Int.le_refl _,by omega,by omega⟩)]
 generalize el f.Signs i = s
 show (if (!decide (0 ≤ s.Part ∧ s.Part ≤ hiP f.Bill)) = true then _ else _) = _
 by_cases c1:0 ≤ s.Part ∧ s.Part ≤ hiP f.Bill
 ·by_cases c2:0 ≤ s.Who ∧ s.Who ≤ (r.Firms.length:Int) - 1
  ·by_cases c3:0 ≤ s.City ∧ s.City ≤ (r.Cities.length:Int) - 1
   ·by_cases c4:lK f i ≤ s.Day ∧ s.Day ≤ 100000
    ·rw [decide_eq_true c1,decide_eq_true c2,decide_eq_true c3,decide_eq_true c4,if_neg (not_not_intro c1),if_neg (not_not_intro c2),if_neg (not_not_intro c3),if_neg (not_not_intro c4)]
     simp only [Bool.not_true,Bool.false_eq_true,if_false]
     by_cases c5:i = 0
     ·subst c5
      by_cases c6:s.Day = lK f 0
      ·rw [if_neg (show ¬ (0 = 0 ∧ s.Day ≠ lK f 0) from fun q=>q.2 c6)]
       have c7:(s.Day != lK f 0) = false:=by simp [c6]
       rw [c7]
       cases aAF r f 0 <;> cases twB f.Signs s 0 <;> rfl
      ·rw [if_pos (show 0 = 0 ∧ s.Day ≠ lK f 0 from ⟨rfl,c6⟩)]
       have c7:(s.Day != lK f 0) = true:=by simp [c6]
       rw [c7]; rfl
     ·rw [if_neg (show ¬ (i = 0 ∧ s.Day ≠ lK f i) from fun q=>c5 q.1)]
      have c7:((i:Int) == 0) = false:=by rw [beq_eq_false_iff_ne]; omega
      rw [c7]
      cases aAF r f i <;> cases twB f.Signs s i <;> rfl
    ·simp [c1,c2,c3,c4]
   ·simp [c1,c2,c3]
  ·simp [c1,c2]
 ·simp [c1]
end Go.Proofs.Ytfhebiceipgdmaa
