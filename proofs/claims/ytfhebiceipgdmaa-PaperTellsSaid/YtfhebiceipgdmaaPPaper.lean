/- What paper.Check answers, exactly: the bill and the signatures. -/
import Derived.Test.YtfhebiceipgdmaaPReal9b
import Derived.Test.YtfhebiceipgdmaaPLaw12
set_option linter.unusedVariables false
set_option linter.unusedSimpArgs false
namespace Go.Proofs.Ytfhebiceipgdmaa
open Go.RowKit Vm
theorem X9 (a b:Bool):(if a = true then some b else some false) = some (a && b):=by cases a <;> rfl
theorem HC (a n:Int):eY a n = some (decide (0 ≤ a ∧ a < n)):=by
 unfold eY
 by_cases h:a ≥ 0
 ·rw [if_pos (decide_eq_true h)]; simp [show 0 ≤ a from h]
 ·rw [if_neg (fun q=>h (of_decide_eq_true q)),decide_eq_false (fun q=>h q.1)]
theorem R8 (b:bF):∃ x,jT b = some x:=by
 have j1:∃ x,jK b = some x:=by unfold jK; (repeat' split) <;> exact ⟨_,rfl⟩
 obtain ⟨x,hx⟩:=j1
 have j2:∃ y,iZ b = some y:=by
  unfold iZ
  simp only [hx,Option.bind_some]
  cases x <;> simp only [Sum.elim_inl,Sum.elim_inr] <;> (repeat' split) <;> exact ⟨_,rfl⟩
 obtain ⟨y,hy⟩:=j2
 unfold jT
 simp only [hy,Option.bind_some]
 cases y <;> simp only [Sum.elim_inl,Sum.elim_inr] <;> (repeat' split) <;> exact ⟨_,rfl⟩
theorem V6 (r:aA) (b:bF) (bg:wT r) (w:aA.wf r):∃ x,hJ r b = some x:=by
 obtain ⟨t,ht⟩:=R8 b
 have j1:∃ x,jM r b = some x:=by
  unfold jM
  simp only [ht,Option.bind_some]
  (repeat' split) <;> exact ⟨_,rfl⟩
 obtain ⟨x1,h1⟩:=j1
 have j2:∃ x,jJ r b = some x:=by
  unfold jJ
  simp only [h1,Option.bind_some]
  cases x1 <;> simp only [Sum.elim_inl,Sum.elim_inr] <;> (repeat' split) <;> exact ⟨_,rfl⟩
 obtain ⟨x2,h2⟩:=j2
 have j3:∃ x,jS r b = some x:=by
  unfold jS
  simp only [h2,Option.bind_some]
  cases x2 <;> simp only [Sum.elim_inl,Sum.elim_inr] <;> (repeat' split) <;> exact ⟨_,rfl⟩
 obtain ⟨x3,h3⟩:=j3
 have hu:=bg.usa
 have j4:∀ p,∃ x,dC r b p = some x:=by
  intro p
  unfold dC
  simp only [h3,HC,P7 r b.City b.Pay (by omega),Option.bind_some]
  cases x3 <;> simp only [Sum.elim_inl,Sum.elim_inr] <;> (repeat' split) <;> exact ⟨_,rfl⟩
 obtain ⟨g,hg⟩:=Classical.axiomOfChoice j4
 unfold hJ
 simp only [QC r bg w,HC,hg,Option.bind_some]
 (repeat' split) <;> exact ⟨_,rfl⟩
noncomputable def EN (r:aA) (b:bF):Int:=(hJ r b).getD 0
theorem aF0 (r:aA) (b:bF) (bg:wT r) (w:aA.wf r):hJ r b = some (EN r b):=by
 obtain ⟨x,hx⟩:=V6 r b bg w
 unfold EN
 rw [hx]; rfl
def SU (S:List aX) (n part:Int):Bool:=n == 0 || (el S n.toNat).Part == part
theorem LI (f:aB) (n part:Int) (h:n = 0 ∨ 0 ≤ n ∧ n < f.Signs.length):nA f n part = some (SU f.Signs n part):=by
 unfold nA SU
 by_cases h0:n = 0
 ·subst h0; rfl
 ·have h0' : (n == 0) = false:=by simpa using h0
  rw [if_neg (by simpa using h0),JX _ _ (by omega) (by omega),h0']; rfl
theorem RG (l:List Int) (x:Int) (hl:l.length < 1000):fS l x = some (decide (x ∈ l)):=by
 have h1:hH l x 0 = some (NI () (iT (fun i=>if x = el l i then some (i:Int) else none) 0 l.length)):=by
  unfold hH
  refine rG (fun i:Nat=>(i:Int)) l.length _ () ?_ ?_
  ·intro i hi
   simp only [fF,i8 hi,if_true,cY _ _ hi,Option.bind_some,b9 (show i < 9223372036854775807 by omega),beq_iff_eq]
   by_cases e:x = el l i
   ·rw [if_pos e,if_pos e]
   ·rw [if_neg e,if_neg e]
  ·simp only [fF,kH,if_false]
 unfold fS kZ
 rw [h1]
 cases h:iT (fun i=>if x = el l i then some (i:Int) else none) 0 l.length with
 | none =>
  have:¬ x ∈ l:=fun hm=>by
   obtain ⟨i,hi,e⟩:=aEs hm
   have:=(pM _ 0).1 h i (Nat.zero_le _) (by omega)
   rw [if_pos e.symm] at this; cases this
  rw [decide_eq_false this]
  rfl
 | some k =>
  obtain ⟨i,_,h2,h3,_⟩:=uT _ 0 h
  split at h3
  ·rename_i e
   cases h3
   have:x ∈ l:=by rw [e]; exact GT _ i (by omega)
   rw [decide_eq_true this]
   simp [NI]
  ·cases h3
def P5 (S:List aX) (i:Nat) (kinds:List Int):Bool:=decide (0 ≤ (el S i).For ∧ (el S i).For ≤ (i:Int) - 1) && (SU S (el S i).For (el S i).Part && decide ((el S (el S i).For.toNat).Kind ∈ kinds))
theorem SV (f:aB) (i:Nat) (hi:i < f.Signs.length) (hl:f.Signs.length ≤ 50) (kinds:List Int) (hk:kinds.length < 1000):qA f i kinds = some (P5 f.Signs i kinds):=by
 unfold qA P5
 simp only [cY _ _ hi,Option.bind_some,sE]
 rw [dG (by omega) (by omega)]
 by_cases h:0 ≤ (el f.Signs i).For ∧ (el f.Signs i).For ≤ (i:Int) - 1
 ·rw [if_pos (decide_eq_true h),decide_eq_true h,LI f _ _ (.inr ⟨h.1,by omega⟩),JX _ _ h.1 (by omega)]
  simp only [Option.bind_some,RG _ _ hk,X9,Bool.true_and]
 ·rw [if_neg (fun q=>h (of_decide_eq_true q)),decide_eq_false h]; rfl
def aK4 (x:Int):Bool:=(IntKind.wrap .i64 (BitVec.ofInt (IntKind.bits .i64) x ||| BitVec.ofInt (IntKind.bits .i64) 1).toNat) == 1
def aI0 (x:Int):Bool:=(IntKind.wrap .i64 (BitVec.ofInt (IntKind.bits .i64) x &&& BitVec.ofInt (IntKind.bits .i64) 6).toNat) != 6
def MD (r:aA) (f:aB) (i:Nat) (p2:Bool) (s:aX) (p4:Bool):Bool :=
 if s.Kind = 0 then (s.Who == f.Bill.Drawer && (s.Sum == 0 && (aK4 s.Flags && (s.Part == 0 && (s.Day == f.Bill.Day && s.City == f.Bill.City)))))
 else if s.Kind = 1 then (s.Who == f.Bill.Drawee && p4)
 else if s.Kind = 2 then (decide (-1 ≤ s.To ∧ s.To ≤ (r.Firms.length:Int) - 1) && (s.Sum == 0 && (decide (0 ≤ s.Flags ∧ s.Flags ≤ 7) && aI0 s.Flags)))
 else if s.Kind = 3 then (p2 && P5 f.Signs i [0,1,2,4])
 else if s.Kind = 4 then (p4 && (s.Who != f.Bill.Drawee && P5 f.Signs i [0,2]))
 else false
theorem VR (r:aA) (f:aB) (i:Nat) (hi:i < f.Signs.length) (hl:f.Signs.length ≤ 50) (bg:wT r) (p2 p4:Bool):oZ r f i p2 (el f.Signs i) p4 = some (MD r f i p2 (el f.Signs i) p4):=by
 have hf:=bg.frm
 unfold oZ MD
 simp only [sE,SV f i hi hl [0,1,2,4] (by decide),SV f i hi hl [0,2] (by decide),Option.bind_some,X9]
 rw [dG (show -9223372036854775808 ≤ (r.Firms.length:Int) - 1 by omega) (by omega)]
 generalize el f.Signs i = s
 by_cases k0:s.Kind = 0
 ·simp only [k0,beq_self_eq_true,if_true]; rfl
 by_cases k1:s.Kind = 1
 ·simp [k1]
 by_cases k2:s.Kind = 2
 ·simp only [k2]; rfl
 by_cases k3:s.Kind = 3
 ·simp [k3]
 by_cases k4:s.Kind = 4
 ·simp [k4]
 ·simp [k0,k1,k2,k3,k4]
def K5 (r:aA) (f:aB) (i:Nat):Bool :=
 (((i:Int) == 0) == ((el f.Signs i).Kind == 0)) && (((el f.Signs i).Kind == 2 || (el f.Signs i).To == -1) && (((el f.Signs i).Kind == 3 || ((el f.Signs i).Kind == 4 || (el f.Signs i).For == -1)) &&
  MD r f i ((el f.Signs i).Sum == 0 && (el f.Signs i).Flags == 0) (el f.Signs i) (decide (1 ≤ (el f.Signs i).Sum ∧ (el f.Signs i).Sum ≤ 1099511627776) && (el f.Signs i).Flags == 0)))
theorem aBO (r:aA) (f:aB) (i:Nat) (hi:i < f.Signs.length) (hl:f.Signs.length ≤ 50) (bg:wT r):rQ r f i = some (K5 r f i):=by
 unfold rQ K5
 simp only [cY _ _ hi,Option.bind_some]
 have hj1:=VR r f i hi hl bg
 generalize el f.Signs i = s at hj1 ⊢
 have hj2:∀ p2,pB r f i s p2 = some (MD r f i p2 s (decide (1 ≤ s.Sum ∧ s.Sum ≤ 1099511627776) && s.Flags == 0)):=by
  intro p2
  unfold pB
  simp only [sE,hj1,Option.bind_some]
  cases decide (1 ≤ s.Sum ∧ s.Sum ≤ 1099511627776) <;> rfl
 have hj3:nF r f i s = some (MD r f i (s.Sum == 0 && s.Flags == 0) s (decide (1 ≤ s.Sum ∧ s.Sum ≤ 1099511627776) && s.Flags == 0)):=by
  unfold nF
  simp only [hj2,Option.bind_some]
  cases s.Sum == 0 <;> rfl
 have hj4:pH r f i s = some ((s.Kind == 3 || (s.Kind == 4 || s.For == -1)) && MD r f i (s.Sum == 0 && s.Flags == 0) s (decide (1 ≤ s.Sum ∧ s.Sum ≤ 1099511627776) && s.Flags == 0)):=by
  unfold pH
  simp only [hj3,Option.bind_some,bne]
  cases s.Kind == 3 <;> cases s.Kind == 4 <;> cases s.For == -1 <;> simp
 simp only [hj4,Option.bind_some,bne]
 cases ((i:Int) == 0) == (s.Kind == 0) <;> cases s.Kind == 2 <;> cases s.To == -1 <;> simp
def PL (S:List aX) (s:aX) (k:Nat):Bool:=(S.take k).any fun x=>s.Kind == 1 && (x.Kind == 1 && x.Part == s.Part)
def oM (f:aB) (k:Nat):Int:=if k = 0 then f.Bill.Day else (el f.Signs (k - 1)).Day
def hiP (b:bF):Int:=IntKind.wrap .i64 (b.Parts - 1)
def pS (r:aA) (f:aB) (i:Nat):Int :=
 if ¬ (0 ≤ (el f.Signs i).Part ∧ (el f.Signs i).Part ≤ hiP f.Bill) then 15
 else if ¬ (0 ≤ (el f.Signs i).Who ∧ (el f.Signs i).Who ≤ (r.Firms.length:Int) - 1) then 1
 else if ¬ (0 ≤ (el f.Signs i).City ∧ (el f.Signs i).City ≤ (r.Cities.length:Int) - 1) then 1
 else if ¬ (oM f i ≤ (el f.Signs i).Day ∧ (el f.Signs i).Day ≤ 100000) then 13
 else if i = 0 ∧ (el f.Signs i).Day ≠ oM f i then 13
 else if K5 r f i = false then 14
 else if PL f.Signs (el f.Signs i) i = true then 5 else 0
theorem aGu (r:aA) (f:aB) (i:Nat) (hi:i < f.Signs.length) (hl:f.Signs.length ≤ 50) (bg:wT r):uZ r f i = some (pS r f i):=by
 have hf:=bg.frm
 have hc:=bg.cit
 have l1:rK r f i (el f.Signs i) f.Bill.Day false 0 = some (oM f i,PL f.Signs (el f.Signs i) i):=by
  have hsl:(dX f.Signs 0 (i:Int)).length = i:=by simp [dX]; omega
  unfold rK
  refine dB (step:=fun w=>k8 r f i (el f.Signs i) w.1 w.2.1 w.2.2) (fun k:Nat=>(oM f k,PL f.Signs (el f.Signs i) k,(k:Int))) i (oM f i,PL f.Signs (el f.Signs i) i) ?_ ?_
  ·intro k hk
   have e1:el (dX f.Signs 0 (i:Int)) k = el f.Signs k:=by rw [vV _ _ (by omega),vV _ _ (by omega)]; simp [dX]
   have e2:PL f.Signs (el f.Signs i) (k + 1) = (PL f.Signs (el f.Signs i) k || ((el f.Signs i).Kind == 1 && ((el f.Signs k).Kind == 1 && (el f.Signs k).Part == (el f.Signs i).Part))):=by
    unfold PL
    rw [G6 _ _ (by omega),List.any_append]
    simp
   have e3:oM f (k + 1) = (el f.Signs k).Day:=by unfold oM; rw [if_neg (by omega)]; rfl
   simp only [k8,hsl,i8 hk,if_true,cY (dX f.Signs 0 (i:Int)) k (by omega),e1,e2,e3,Option.bind_some,b9 (show k < 9223372036854775807 by omega)]
   cases PL f.Signs (el f.Signs i) k
   ·cases (el f.Signs i).Kind == 1 <;> cases (el f.Signs k).Kind == 1 <;> rfl
   ·rfl
  ·simp only [k8,hsl,kH,if_false]
 unfold uZ pS
 simp only [cY _ _ hi,Option.bind_some,sE,l1,aBO r f i hi hl bg]
 rw [dG (show -9223372036854775808 ≤ (r.Firms.length:Int) - 1 by omega) (by omega),dG (show -9223372036854775808 ≤ (r.Cities.length:Int) - 1 by omega) (by omega),if_pos (show kM f.Signs.length 0 (i:Int) from ⟨Int.le_refl _,by omega,by omega⟩)]
 generalize el f.Signs i = s
 show (if (!decide (0 ≤ s.Part ∧ s.Part ≤ hiP f.Bill)) = true then _ else _) = _
 by_cases c1:0 ≤ s.Part ∧ s.Part ≤ hiP f.Bill
 ·by_cases c2:0 ≤ s.Who ∧ s.Who ≤ (r.Firms.length:Int) - 1
  ·by_cases c3:0 ≤ s.City ∧ s.City ≤ (r.Cities.length:Int) - 1
   ·by_cases c4:oM f i ≤ s.Day ∧ s.Day ≤ 100000
    ·rw [decide_eq_true c1,decide_eq_true c2,decide_eq_true c3,decide_eq_true c4,if_neg (not_not_intro c1),if_neg (not_not_intro c2),if_neg (not_not_intro c3),if_neg (not_not_intro c4)]
     simp only [Bool.not_true,Bool.false_eq_true,if_false]
     by_cases c5:i = 0
     ·subst c5
      by_cases c6:s.Day = oM f 0
      ·rw [if_neg (show ¬ (0 = 0 ∧ s.Day ≠ oM f 0) from fun q=>q.2 c6)]
       have c7:(s.Day != oM f 0) = false:=by simp [c6]
       rw [c7]
       cases K5 r f 0 <;> cases PL f.Signs s 0 <;> rfl
      ·rw [if_pos (show 0 = 0 ∧ s.Day ≠ oM f 0 from ⟨rfl,c6⟩)]
       have c7:(s.Day != oM f 0) = true:=by simp [c6]
       rw [c7]; rfl
     ·rw [if_neg (show ¬ (i = 0 ∧ s.Day ≠ oM f i) from fun q=>c5 q.1)]
      have c7:((i:Int) == 0) = false:=by rw [beq_eq_false_iff_ne]; omega
      rw [c7]
      cases K5 r f i <;> cases PL f.Signs s i <;> rfl
    ·simp [c1,c2,c3,c4]
   ·simp [c1,c2,c3]
  ·simp [c1,c2]
 ·simp [c1]
end Go.Proofs.Ytfhebiceipgdmaa
