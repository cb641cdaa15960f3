/- What the reference of layer 12 answers: signatures, alterations, acts, facts, the whole. -/
import Derived.Test.YtfhebiceipgdmaaPRef12
set_option linter.unusedVariables false
set_option linter.unusedSimpArgs false
namespace Go.Proofs.Ytfhebiceipgdmaa
open Go.RowKit Vm
theorem aJT {x:Int} (h:pL x):aK4 x = (x == 0 || x == 1):=by
 have h1:=h.1
 have h2:=h.2
 show (IntKind.wrap .i64 ((BitVec.ofInt 64 x ||| 1#64:BitVec 64).toNat:Int) == 1) = _
 have hl:=(BitVec.ofInt 64 x ||| 1#64).isLt
 have hle:(BitVec.ofInt 64 x).toNat ≤ (BitVec.ofInt 64 x ||| 1#64).toNat:=by
  rw [BitVec.toNat_or]; exact Nat.left_le_or
 have hx:((BitVec.ofInt 64 x).toNat:Int) = x % 18446744073709551616:=by
  rw [BitVec.toNat_ofInt]; omega
 rw [Bool.eq_iff_iff,Bool.or_eq_true]
 simp only [beq_iff_eq]
 constructor
 ·intro q
  rw [IntKind.wrap_i64] at q
  generalize (BitVec.ofInt 64 x ||| 1#64).toNat = y at *
  omega
 ·rintro (rfl | rfl)
  ·decide
  ·decide
theorem aIz {x:Int} (h:0 ≤ x ∧ x ≤ 7):aI0 x = (if ((IntKind.wrap .i64 (x.tdiv 2)).tmod 2 == 1) = true then !((IntKind.wrap .i64 (x.tdiv 4)).tmod 2 == 1) else true):=by
 have:x = 0 ∨ x = 1 ∨ x = 2 ∨ x = 3 ∨ x = 4 ∨ x = 5 ∨ x = 6 ∨ x = 7:=by omega
 rcases this with rfl | rfl | rfl | rfl | rfl | rfl | rfl | rfl <;> decide
theorem A2 (a b c:Int):a9 a b c = some (decide (b ≤ a ∧ a ≤ c)):=o5 a b c
theorem RO (f:aB) (n part:Int) (h:n = 0 ∨ 0 ≤ n ∧ n < f.Signs.length):iK f n part = some (SU f.Signs n part):=by
 unfold iK SU
 by_cases h0:n = 0
 ·subst h0; rfl
 ·have h0' : (n == 0) = false:=by simpa using h0
  rw [if_neg (by simpa using h0),JX _ _ (by omega) (by omega),h0']; rfl
def JV (S:List aX) (i:Nat):Bool:=decide (0 ≤ (el S i).For ∧ (el S i).For ≤ (i:Int) - 1) && SU S (el S i).For (el S i).Part
theorem aCv (f:aB) (i:Nat) (hi:i < f.Signs.length) (hl:f.Signs.length ≤ 50):gQ f i = some (JV f.Signs i):=by
 unfold gQ JV
 simp only [cY _ _ hi,Option.bind_some,A2]
 rw [dG (by omega) (by omega)]
 by_cases h:0 ≤ (el f.Signs i).For ∧ (el f.Signs i).For ≤ (i:Int) - 1
 ·rw [if_pos (decide_eq_true h),decide_eq_true h,RO f _ _ (.inr ⟨h.1,by omega⟩)]
  rfl
 ·rw [if_neg (fun q=>h (of_decide_eq_true q)),decide_eq_false h]; rfl
theorem aAm (S:List aX) (i:Nat) (ks:List Int):P5 S i ks = (JV S i && decide ((el S (el S i).For.toNat).Kind ∈ ks)):=by
 unfold P5 JV
 rw [Bool.and_assoc]
theorem MB (r:aA) (f:aB) (i:Nat) (hi:i < f.Signs.length) (hl:f.Signs.length ≤ 50) (bg:wT r) (wf:pL (el f.Signs i).Flags)
  (hd:i = 0→(el f.Signs i).Day = f.Bill.Day) (hk:∀ n,n < i→0 ≤ (el f.Signs n).Kind ∧ (el f.Signs n).Kind ≤ 4):lC r f i = some (K5 r f i):=by
 have hf:=bg.frm
 unfold lC K5 MD
 simp only [cY _ _ hi,Option.bind_some,A2,aCv f i hi hl,aAm,aJT wf]
 rw [dG (show -9223372036854775808 ≤ (r.Firms.length:Int) - 1 by omega) (by omega)]
 have hb:JV f.Signs i = true→0 ≤ (el f.Signs i).For ∧ (el f.Signs i).For < i:=by
  unfold JV
  rw [Bool.and_eq_true,decide_eq_true_eq]
  omega
 have hat:JV f.Signs i = true→at? f.Signs (el f.Signs i).For = some (el f.Signs (el f.Signs i).For.toNat):=fun q=>by
  have:=hb q
  exact JX _ _ (by omega) (by omega)
 have hkk:JV f.Signs i = true→0 ≤ (el f.Signs (el f.Signs i).For.toNat).Kind ∧ (el f.Signs (el f.Signs i).For.toNat).Kind ≤ 4:=fun q=>by
  have:=hb q
  exact hk _ (by omega)
 have hpos:decide ((i:Int) > 0) = !((i:Int) == 0):=by
  rw [Bool.eq_iff_iff]; simp; omega
 have hd' : ((i:Int) == 0) = true→((el f.Signs i).Day == f.Bill.Day) = true:=fun q=>by
  rw [beq_iff_eq] at q ⊢
  exact hd (by omega)
 generalize JV f.Signs i = bk at hb hat hkk ⊢
 generalize el f.Signs (el f.Signs i).For.toNat = y at hat hkk ⊢
 generalize el f.Signs i = s at *
 rw [hpos]
 have e3:bk = true→decide (y.Kind ∈ [(0:Int),1,2,4]) = (y.Kind != 3):=fun q=>by
  have:=hkk q
  rw [Bool.eq_iff_iff]; simp; omega
 have e2:decide (y.Kind ∈ [(0:Int),2]) = (y.Kind == 0 || y.Kind == 2):=by
  rw [Bool.eq_iff_iff]; simp
 rw [e2]
 generalize ((i:Int) == 0) = b0 at hd' ⊢
 by_cases k0:s.Kind = 0
 ·have q0:(s.Kind == 0) = true:=by rw [k0]; rfl
  have q2:(s.Kind == 2) = false:=by rw [k0]; rfl
  have q3:(s.Kind == 3) = false:=by rw [k0]; rfl
  have q4:(s.Kind == 4) = false:=by rw [k0]; rfl
  rw [q0,q2,q3,q4,if_pos rfl,if_pos k0]
  generalize (s.Day == f.Bill.Day) = d at hd' ⊢
  generalize (s.Who == f.Bill.Drawer) = b1
  generalize (s.For == -1) = b2
  generalize (s.To == -1) = b3
  generalize (s.Sum == 0) = b4
  generalize (s.Flags == 0) = b5
  generalize (s.Flags == 1) = b6
  generalize (s.Part == 0) = b7
  generalize (s.City == f.Bill.City) = b8
  cases b0
  ·rfl
  ·rw [hd' rfl]
   cases b1 <;> cases b2 <;> cases b3 <;> cases b4 <;> cases b5 <;> cases b6 <;> cases b7 <;> rfl
 rw [if_neg (fun q=>k0 (eq_of_beq q)),if_neg k0]
 have q0:(s.Kind == 0) = false:=by simpa using k0
 by_cases k1:s.Kind = 1
 ·have q1:(s.Kind == 1) = true:=by rw [k1]; rfl
  have q2:(s.Kind == 2) = false:=by rw [k1]; rfl
  have q3:(s.Kind == 3) = false:=by rw [k1]; rfl
  have q4:(s.Kind == 4) = false:=by rw [k1]; rfl
  rw [q0,q1,q2,q3,q4,if_pos rfl,if_pos k1]
  generalize (s.Who == f.Bill.Drawee) = b1
  generalize (s.For == -1) = b2
  generalize (s.To == -1) = b3
  generalize (s.Flags == 0) = b5
  generalize decide (1 ≤ s.Sum ∧ s.Sum ≤ 1099511627776) = b6
  cases b0 <;> cases b1 <;> cases b2 <;> cases b3 <;> cases b6 <;> rfl
 rw [if_neg (fun q=>k1 (eq_of_beq q)),if_neg k1]
 by_cases k2:s.Kind = 2
 ·have q2:(s.Kind == 2) = true:=by rw [k2]; rfl
  have q3:(s.Kind == 3) = false:=by rw [k2]; rfl
  have q4:(s.Kind == 4) = false:=by rw [k2]; rfl
  rw [q0,q2,q3,q4,if_pos rfl,if_pos k2]
  generalize (s.For == -1) = b2
  generalize (s.Sum == 0) = b4
  generalize decide (-1 ≤ s.To ∧ s.To ≤ (r.Firms.length:Int) - 1) = b6
  by_cases hfl:0 ≤ s.Flags ∧ s.Flags ≤ 7
  ·rw [decide_eq_true hfl,aIz hfl]
   generalize ((IntKind.wrap .i64 (s.Flags.tdiv 2)).tmod 2 == 1) = c1
   generalize ((IntKind.wrap .i64 (s.Flags.tdiv 4)).tmod 2 == 1) = c2
   cases b0 <;> cases b2 <;> cases b6 <;> cases b4 <;> cases c1 <;> rfl
  ·rw [decide_eq_false hfl]
   cases b0 <;> cases b2 <;> cases b6 <;> cases b4 <;> rfl
 rw [if_neg (fun q=>k2 (eq_of_beq q)),if_neg k2]
 have q2:(s.Kind == 2) = false:=by simpa using k2
 by_cases k3:s.Kind = 3
 ·have q3:(s.Kind == 3) = true:=by rw [k3]; rfl
  rw [q0,q2,q3,if_pos rfl,if_pos k3]
  simp only [bne]
  generalize (s.To == -1) = b3
  generalize (s.Sum == 0) = b4
  generalize (s.Flags == 0) = b5
  cases bk
  ·cases b0 <;> cases b3 <;> cases b4 <;> cases b5 <;> rfl
  ·rw [hat rfl,e3 rfl]
   cases b0 <;> cases b3 <;> cases b4 <;> cases b5 <;> rfl
 rw [if_neg (fun q=>k3 (eq_of_beq q)),if_neg k3]
 have q3:(s.Kind == 3) = false:=by simpa using k3
 by_cases k4:s.Kind = 4
 ·have q4:(s.Kind == 4) = true:=by rw [k4]; rfl
  rw [q0,q2,q3,q4,if_pos rfl,if_pos k4]
  rw [show (s.To != -1) = !(s.To == -1) from rfl,show (s.Flags != 0) = !(s.Flags == 0) from rfl,show (s.Who != f.Bill.Drawee) = !(s.Who == f.Bill.Drawee) from rfl]
  generalize (s.To == -1) = b3
  generalize (s.Flags == 0) = b5
  generalize (s.Who == f.Bill.Drawee) = b1
  generalize decide (1 ≤ s.Sum ∧ s.Sum ≤ 1099511627776) = b6
  cases bk
  ·cases b0 <;> cases b1 <;> cases b3 <;> cases b5 <;> cases b6 <;> rfl
  ·rw [hat rfl]
   simp only [Option.bind_some]
   generalize (y.Kind == 0) = c1
   generalize (y.Kind == 2) = c2
   cases b0 <;> cases b1 <;> cases b3 <;> cases b5 <;> cases b6 <;> cases c1 <;> rfl
 ·rw [if_neg (fun q=>k4 (eq_of_beq q)),if_neg k4]
  simp
theorem aEX {r:aA} {f:aB} {i:Nat} (h:K5 r f i = true):0 ≤ (el f.Signs i).Kind ∧ (el f.Signs i).Kind ≤ 4:=by
 apply Classical.byContradiction
 intro hn
 unfold K5 MD at h
 rw [if_neg (by omega),if_neg (by omega),if_neg (by omega),if_neg (by omega),if_neg (by omega)] at h
 simp at h
theorem Q2 (r:aA) (f:aB) (i:Nat) (hi:i < f.Signs.length) (hl:f.Signs.length ≤ 50) (bg:wT r) (wf:pL (el f.Signs i).Flags)
  (hb:∀ n,n < i→pS r f n = 0):kB r f i = some (pS r f i):=by
 have hf:=bg.frm
 have hc:=bg.cit
 have hk:∀ n,n < i→0 ≤ (el f.Signs n).Kind ∧ (el f.Signs n).Kind ≤ 4:=fun n hn=>aEX (aBp (hb n hn)).2.2.1
 have l1:eN f i (el f.Signs i) 0 = some (if PL f.Signs (el f.Signs i) i = true then .inr () else .inl ()):=by
  unfold eN
  by_cases k:(el f.Signs i).Kind = 1
  ·have hfo:eN f i (el f.Signs i) 0 = some (NI () (iT (fun n=>if (el f.Signs n).Kind = 1 ∧ (el f.Signs n).Part = (el f.Signs i).Part then some () else none) 0 i)):=by
    unfold eN
    refine rG (step:=fun w=>dQ f i (el f.Signs i) w) (fun n:Nat=>(n:Int)) i _ () ?_ ?_
    ·intro n hn
     simp only [dQ,i8 hn,if_true,cY f.Signs n (by omega),Option.bind_some,b9 (show n < 9223372036854775807 by omega),beq_iff_eq,k]
     by_cases c1:(el f.Signs n).Kind = 1
     ·by_cases c2:(el f.Signs n).Part = (el f.Signs i).Part
      ·rw [if_pos c1,if_pos c2,if_pos ⟨c1,c2⟩]
      ·rw [if_pos c1,if_neg c2,if_neg (fun q=>c2 q.2)]
     ·rw [if_neg c1,if_neg (fun q=>c1 q.1)]
    ·simp only [dQ,kH,if_false]
   unfold eN at hfo
   rw [hfo]
   cases h:iT (fun n=>if (el f.Signs n).Kind = 1 ∧ (el f.Signs n).Part = (el f.Signs i).Part then some () else none) 0 i with
   | none =>
    have:=(pM i 0).1 h
    have ht:PL f.Signs (el f.Signs i) i = false:=by
     unfold PL
     rw [List.any_eq_false]
     intro x hx
     obtain ⟨n,hn,rfl⟩:=aEs hx
     rw [List.length_take] at hn
     rw [Z5 _ _ _ (by omega)]
     have q:=this n (Nat.zero_le _) (by omega)
     split at q
     ·cases q
     ·rename_i q2
      intro q3
      simp only [Bool.and_eq_true,beq_iff_eq] at q3
      exact q2 ⟨q3.2.1,q3.2.2⟩
    rw [ht]; rfl
   | some u =>
    obtain ⟨n,_,hn,q,_⟩:=uT i 0 h
    split at q
    ·rename_i q2
     have ht:PL f.Signs (el f.Signs i) i = true:=by
      unfold PL
      rw [List.any_eq_true]
      refine ⟨el f.Signs n,?_,by simp [k,q2.1,q2.2]⟩
      rw [← Z5 f.Signs i n (by omega)]
      exact GT _ _ (by simp; omega)
     rw [ht]; rfl
    ·cases q
  ·have ht:PL f.Signs (el f.Signs i) i = false:=by
    unfold PL
    rw [List.any_eq_false]
    intro x hx q
    simp only [Bool.and_eq_true,beq_iff_eq] at q
    exact k q.1
   rw [ht]
   refine rT ?_
   unfold dQ
   by_cases c:decide ((0:Int) < (i:Int)) = true
   ·rw [if_pos c,if_neg (by simpa using k)]; rfl
   ·rw [if_neg c]; rfl
 unfold kB jW jV pS
 simp only [cY _ _ hi,Option.bind_some,A2,l1]
 rw [dG (show -9223372036854775808 ≤ (r.Firms.length:Int) - 1 by omega) (by omega),dG (show -9223372036854775808 ≤ (r.Cities.length:Int) - 1 by omega) (by omega)]
 show (if (!decide (0 ≤ (el f.Signs i).Part ∧ (el f.Signs i).Part ≤ hiP f.Bill)) = true then _ else _) = _
 by_cases c1:0 ≤ (el f.Signs i).Part ∧ (el f.Signs i).Part ≤ hiP f.Bill
 ·rw [decide_eq_true c1,if_neg (by decide),if_neg (not_not_intro c1)]
  by_cases c2:0 ≤ (el f.Signs i).Who ∧ (el f.Signs i).Who ≤ (r.Firms.length:Int) - 1
  ·rw [decide_eq_true c2,if_neg (by decide),if_neg (not_not_intro c2)]
   by_cases c3:0 ≤ (el f.Signs i).City ∧ (el f.Signs i).City ≤ (r.Cities.length:Int) - 1
   ·rw [decide_eq_true c3,if_neg (by decide),if_neg (not_not_intro c3)]
    by_cases ci:i = 0
    ·have hi0:((i:Int) == 0) = true:=by rw [ci]; rfl
     have hfd:oM f i = f.Bill.Day:=by unfold oM; rw [if_pos ci]
     have hz:decide ((i:Int) > 0) = false:=decide_eq_false (by omega)
     rw [hi0,if_pos rfl,hfd,hz]
     simp only [Bool.false_eq_true,if_false]
     by_cases d1:(el f.Signs i).Day = f.Bill.Day
     ·rw [MB r f i hi hl bg wf (fun _=>d1) hk,if_neg (by simpa using d1)]
      by_cases d2:(el f.Signs i).Day > 100000
      ·rw [if_pos (decide_eq_true d2),if_pos (by omega)]
      ·rw [if_neg (fun q=>d2 (of_decide_eq_true q)),if_neg (show ¬ ¬ (f.Bill.Day ≤ (el f.Signs i).Day ∧ (el f.Signs i).Day ≤ 100000) by omega),if_neg (show ¬ (i = 0 ∧ (el f.Signs i).Day ≠ f.Bill.Day) from fun q=>q.2 d1)]
       simp only [Option.bind_some]
       cases K5 r f i <;> cases PL f.Signs (el f.Signs i) i <;> rfl
     ·rw [if_pos (by simpa using d1)]
      by_cases d3:f.Bill.Day ≤ (el f.Signs i).Day ∧ (el f.Signs i).Day ≤ 100000
      ·rw [if_neg (not_not_intro d3),if_pos ⟨ci,d1⟩]
      ·rw [if_pos d3]
    ·have hi0:((i:Int) == 0) = false:=by rw [beq_eq_false_iff_ne]; omega
     have hfd:oM f i = (el f.Signs (i - 1)).Day:=by unfold oM; rw [if_neg ci]
     have e:IntKind.wrap .i64 ((i:Int) - 1) = ((i - 1:Nat):Int):=by rw [dG (by omega) (by omega)]; omega
     rw [hi0,if_neg (by decide),hfd,MB r f i hi hl bg wf (fun q=>absurd q ci) hk,e,cY f.Signs (i - 1) (by omega),if_pos (decide_eq_true (show (i:Int) > 0 by omega))]
     simp only [Option.bind_some]
     by_cases d2:(el f.Signs i).Day > 100000
     ·rw [if_pos (decide_eq_true d2),if_pos (by omega)]
     rw [if_neg (fun q=>d2 (of_decide_eq_true q))]
     by_cases d3:(el f.Signs i).Day < (el f.Signs (i - 1)).Day
     ·rw [if_pos (decide_eq_true d3),if_pos (by omega)]; rfl
     rw [if_neg (fun q=>d3 (of_decide_eq_true q)),if_neg (show ¬ ¬ ((el f.Signs (i - 1)).Day ≤ (el f.Signs i).Day ∧ (el f.Signs i).Day ≤ 100000) by omega),if_neg (show ¬ (i = 0 ∧ (el f.Signs i).Day ≠ (el f.Signs (i - 1)).Day) from fun q=>ci q.1)]
     cases K5 r f i <;> cases PL f.Signs (el f.Signs i) i <;> rfl
   ·rw [decide_eq_false c3,if_pos (show (!false) = true from rfl),if_pos c3]
  ·rw [decide_eq_false c2,if_pos (show (!false) = true from rfl),if_pos c2]
 ·rw [decide_eq_false c1,if_pos (show (!false) = true from rfl),if_pos c1]
end Go.Proofs.Ytfhebiceipgdmaa
