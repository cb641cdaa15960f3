/- What realm.Check answers, exactly; and that the reference of layer 9 answers the same. -/
import Derived.Test.YtfhebiceipgdmaaPRealm
import Derived.Test.YtfhebiceipgdmaaVmG
set_option linter.unusedVariables false
set_option linter.unusedSimpArgs false
namespace Go.Proofs.Ytfhebiceipgdmaa
open Go.RowKit Vm
def G4 (x:Int):Bool:=(decide (97 ≤ x) && decide (x ≤ 122)) || (decide (65 ≤ x) && decide (x ≤ 90))
def aAb (x:Int):Bool:=x == 95 || (decide (48 ≤ x) && decide (x ≤ 57))
def OZ (s:ByteArray) (i:Nat):Bool:=G4 (el (kF s) i) || (i != 0 && aAb (el (kF s) i))
def KK (s:ByteArray):Bool:=decide (1 ≤ s.size) && (decide (s.size ≤ 20) && jD (fun i=>if OZ s i = true then none else some false) true 0 s.size)
theorem IQ (s:ByteArray):(kF s).length = s.size:=by simp [kF]
theorem RL (s:ByteArray) (i:Nat) (x:Int) (b:Bool):gK s i x b = some (if (b || (i != 0 && aAb x)) = true then .inl () else .inr ()):=by
 unfold gK aAb
 cases b with
 | true=>simp
 | false =>
  by_cases h0:i = 0
  ·simp [h0]
  ·by_cases h1:x = 95
   ·simp [h0,h1]
   ·by_cases h2:x < 48
    ·have:¬ 48 ≤ x:=by omega
     simp [h0,h1,h2,this]
    ·by_cases h3:x > 57
     ·have:¬ x ≤ 57:=by omega
      simp [h0,h1,h2,h3,this]
     ·have e1:48 ≤ x:=by omega
      have e2:x ≤ 57:=by omega
      simp [h0,h1,h2,h3,e1,e2]
theorem NJ {α:Type} (p:Nat→Bool) (a b:α) (m:Nat):∀ k:Nat,Sum.elim (fun _=>some a) (fun _=>some b) (jD (fun i=>if p i = true then none else some (Sum.inr ())) (Sum.inl ():Unit ⊕ Unit) k m) = some (jD (fun i=>if p i = true then none else some b) a k m):=by
 induction m with
 | zero=>intro k; rfl
 | succ m ih =>
  intro k
  simp only [jD]
  by_cases h:p k = true
  ·simp only [if_pos h]; exact ih (k + 1)
  ·simp only [if_neg h]; rfl
theorem aAv (s:ByteArray):qN s = some (KK s):=by
 unfold qN KK
 by_cases h0:s.size = 0
 ·have:s = ByteArray.empty:=ByteArray.size_eq_zero_iff.1 h0
  subst this
  simp
 ·have e0:(s.toList == ByteArray.empty.toList) = false:=by
   cases h:s.toList == ByteArray.empty.toList with
   | false=>rfl
   | true =>
    have h1:s.toList = ByteArray.empty.toList:=by simpa using h
    rw [ByteArray.toList_eq,ByteArray.toList_eq] at h1
    have h2:s.data.toList.length = 0:=by rw [h1]; rfl
    exact absurd (show s.size = 0 by simpa using h2) h0
  rw [e0]
  simp only [Bool.false_eq_true,if_false]
  by_cases h1:(s.size:Int) > 20
  ·have:¬ s.size ≤ 20:=by omega
   simp [h1,this]
  ·have e1:s.size ≤ 20:=by omega
   have e2:1 ≤ s.size:=by omega
   have hloop:sG s 0 = some (jD (fun i=>if OZ s i = true then none else some (Sum.inr ())) (Sum.inl ()) 0 s.size):=by
    refine G8 (step:=fun w=>iA s w) (fun i=>(i:Int)) _ _ _ ?_ ?_
    ·intro i hi
     have hi' : i < (kF s).length:=by rw [IQ]; exact hi
     simp only [iA,i8 hi',if_true,cY _ _ hi',Option.bind_some,RL,b9 (show i < 9223372036854775807 by omega)]
     unfold OZ G4
     generalize el (kF s) i = x
     by_cases a1:97 ≤ x <;> by_cases a2:x ≤ 122 <;> by_cases a3:65 ≤ x <;> by_cases a4:x ≤ 90 <;> simp [a1,a2,a3,a4] <;> split <;> simp_all
    ·simp only [iA,← IQ,kH,if_false]
   rw [hloop]
   simp only [Option.bind_some,NJ]
   simp [e1,e2,h1]
theorem aD2 (s:ByteArray) (i:Nat) (h:i < s.size):sAt s (i:Int) = some (el (kF s) i):=by
 have hl:i < (kF s).length:=by rw [IQ]; exact h
 rw [vV _ _ hl]
 simp only [sAt,kF,List.getElem_map]
 rw [if_pos (by omega),Int.toNat_natCast,getElem?_pos s i h]
 rfl
theorem aA2 (x:Int):iO x = some (G4 x):=by
 unfold iO G4
 by_cases a1:97 ≤ x <;> by_cases a2:x ≤ 122 <;> by_cases a3:65 ≤ x <;> simp [a1,a2,a3]
theorem aGV (s:ByteArray):lG s = some (KK s):=by
 unfold lG KK
 by_cases h0:(s.size:Int) < 1
 ·have:s.size = 0:=by omega
  simp [this]
 ·by_cases h1:(s.size:Int) > 20
  ·have:¬ s.size ≤ 20:=by omega
   simp [h0,h1,this]
  ·have e1:s.size ≤ 20:=by omega
   have e2:1 ≤ s.size:=by omega
   have hloop:nP s 0 = some (jD (fun i=>if OZ s i = true then none else some (Sum.inr ())) (Sum.inl ()) 0 s.size):=by
    refine G8 (step:=fun w=>fC s w) (fun i=>(i:Int)) _ _ _ ?_ ?_
    ·intro i hi
     have hj:∀ b,fW s i b = some (if (G4 (el (kF s) i) || (i != 0 && b)) = true then .inl () else .inr ()):=by
      intro b
      unfold fW
      simp only [aD2 s i hi,Option.bind_some,aA2]
      cases G4 (el (kF s) i) <;> cases b <;> by_cases h:i = 0 <;> simp [h]
     simp only [fC,i8 hi,if_true,aD2 s i hi,Option.bind_some,hj,b9 (show i < 9223372036854775807 by omega)]
     unfold OZ aAb
     generalize el (kF s) i = x
     by_cases a1:x = 95
     ·simp [a1]; split <;> simp_all
     ·by_cases a2:48 ≤ x <;> by_cases a3:x ≤ 57 <;> simp [a1,a2,a3] <;> split <;> simp_all
    ·simp only [fC,kH,if_false]
   rw [hloop]
   simp only [Option.bind_some,NJ]
   simp [e1,e2,h1,h0]
theorem aI3 (a b:ByteArray):(a.toList == b.toList) = decide (a = b):=by
 by_cases h:a = b
 ·subst h; simp
 ·rw [decide_eq_false h]
  cases e:a.toList == b.toList with
  | false=>rfl
  | true =>
   have e:a.toList = b.toList:=by simpa using e
   rw [ByteArray.toList_eq,ByteArray.toList_eq] at e
   exact absurd (ByteArray.ext (Array.ext' e)) h
def tB (l:List ByteArray) (x:ByteArray) (n:Nat):Bool:=jD (fun j=>if el l j = x then some true else none) false 0 n
def nK (l:List ByteArray) (i:Nat):Int:=if KK (el l i) = true then (if tB l (el l i) i = true then 5 else 0) else 2
theorem aDC (l:List ByteArray) (x:ByteArray) (hl:l.length < 9223372036854775807):eR l x = some (jD (fun j=>if el l j = x then some (j:Int) else none) (-1) 0 l.length):=by
 unfold eR
 have hloop:gJ l x 0 = some (jD (fun j=>if el l j = x then some (Sum.inr (j:Int)) else none) (Sum.inl ()) 0 l.length):=by
  refine G8 (step:=fun w=>cT l x w) (fun i=>(i:Int)) _ _ _ ?_ ?_
  ·intro i hi
   simp only [cT,i8 hi,if_true,cY _ _ hi,Option.bind_some,b9 (show i < 9223372036854775807 by omega),aI3,decide_eq_true_eq]
   by_cases h:x = el l i
   ·rw [if_pos h,if_pos h.symm]
   ·rw [if_neg h,if_neg (fun q=>h q.symm)]
  ·simp only [cT,kH,if_false]
 rw [hloop]
 simp only [Option.bind_some]
 have key:∀ (m k:Nat),Sum.elim (fun _=>some (-1:Int)) (fun z=>some z) (jD (fun j=>if el l j = x then some (Sum.inr (j:Int)) else none) (Sum.inl ():Unit ⊕ Int) k m) = some (jD (fun j=>if el l j = x then some (j:Int) else none) (-1) k m):=by
  intro m
  induction m with
  | zero=>intro k; rfl
  | succ m ih =>
   intro k
   simp only [jD]
   by_cases h:el l k = x
   ·simp only [if_pos h]; rfl
   ·simp only [if_neg h]; exact ih (k + 1)
 exact key _ 0
theorem RD (l:List ByteArray) (x:ByteArray) (hl:l.length < 9223372036854775807):dT l x = some (tB l x l.length):=by
 unfold dT
 rw [aDC l x hl]
 simp only [Option.bind_some,Option.some.injEq]
 unfold tB
 have key:∀ (m k:Nat),decide (jD (fun j=>if el l j = x then some (j:Int) else none) (-1) k m ≥ 0) = jD (fun j=>if el l j = x then some true else none) false k m:=by
  intro m
  induction m with
  | zero=>intro k; rfl
  | succ m ih =>
   intro k
   simp only [jD]
   by_cases h:el l k = x
   ·simp only [if_pos h]; simp
   ·simp only [if_neg h]; exact ih (k + 1)
 exact key _ 0
theorem aEB (l:List ByteArray) (i:Nat) (hi:i < l.length) (hl:l.length < 9223372036854775807):lT l i = some (nK l i):=by
 unfold lT nK
 rw [cY l i hi]
 simp only [Option.bind_some,aAv]
 cases KK (el l i) with
 | false=>rfl
 | true =>
  have hsl:(dX l 0 (i:Int)).length = i:=by simp [dX]; omega
  rw [if_pos (show kM l.length 0 i from ⟨Int.le_refl _,by omega,by omega⟩),RD _ _ (by omega),hsl]
  have:tB (dX l 0 (i:Int)) (el l i) i = tB l (el l i) i:=by
   unfold tB
   refine E7 _ _ (fun j h1 h2=>?_) rfl
   have:el (dX l 0 (i:Int)) j = el l j:=by
    rw [vV _ _ (by omega),vV _ _ (by omega)]
    simp [dX]
   rw [this]
  rw [this]
  simp only [Option.bind_some,Bool.not_true,Bool.false_eq_true,if_false,if_true]
  cases tB l (el l i) i <;> rfl
theorem aB8 (l:List ByteArray) (i:Nat) (x:ByteArray) (hi:i ≤ l.length) (hl:l.length < 9223372036854775807):iJ l i x = some (tB l x i):=by
 unfold iJ
 have hloop:mD l i x 0 = some (jD (fun j=>if el l j = x then some (Sum.inr ()) else none) (Sum.inl ()) 0 i):=by
  refine G8 (step:=fun w=>eD l i x w) (fun i=>(i:Int)) _ _ _ ?_ ?_
  ·intro j hj
   have hj' : j < l.length:=by omega
   simp only [eD,i8 hj,i8 hj',if_true,cY _ _ hj',Option.bind_some,b9 (show j < 9223372036854775807 by omega),aI3,decide_eq_true_eq]
   by_cases h:el l j = x
   ·rw [if_pos h,if_pos h]
   ·rw [if_neg h,if_neg h]
  ·simp only [eD,kH,if_false]
 rw [hloop]
 simp only [Option.bind_some]
 unfold tB
 have key:∀ (m k:Nat),Sum.elim (fun _=>some false) (fun _=>some true) (jD (fun j=>if el l j = x then some (Sum.inr ()) else none) (Sum.inl ():Unit ⊕ Unit) k m) = some (jD (fun j=>if el l j = x then some true else none) false k m):=by
  intro m
  induction m with
  | zero=>intro k; rfl
  | succ m ih =>
   intro k
   simp only [jD]
   by_cases h:el l k = x
   ·simp only [if_pos h]; rfl
   ·simp only [if_neg h]; exact ih (k + 1)
 exact key _ 0
theorem JY (l:List ByteArray) (i:Nat) (hi:i < l.length) (hl:l.length < 9223372036854775807):dF l i = some (nK l i):=by
 unfold dF nK
 rw [cY l i hi]
 simp only [Option.bind_some,aGV,aB8 l i _ (by omega:i ≤ l.length) hl]
 cases KK (el l i) with
 | false=>rfl
 | true=>cases tB l (el l i) i <;> rfl
def xU (l:List Int) (lo hi:Int):Bool:=kL (fun i=>decide (lo ≤ el l i ∧ el l i ≤ hi ∧ (0 < i→el l (i - 1) < el l i))) l.length
theorem D2 (l:List Int) (lo hi:Int) (hl:l.length < 9223372036854775807):iV l lo hi = some (xU l lo hi):=by
 unfold iV xU
 have hloop:sR l lo hi 0 = some (if kL (fun i=>decide (lo ≤ el l i ∧ el l i ≤ hi ∧ (0 < i→el l (i - 1) < el l i))) l.length = true then .inl () else .inr ()):=by
  refine dB? (step:=fun w=>iE l lo hi w) (fun i=>(i:Int)) l.length _ _ ?_ ?_
  ·intro i hi'
   simp only [iE,i8 hi',if_true,cY _ _ hi',Option.bind_some,b9 (show i < 9223372036854775807 by omega)]
   by_cases h3:0 < i
   ·have e1:IntKind.wrap .i64 ((i:Int) - 1) = ((i - 1:Nat):Int):=by rw [dG (by omega) (by omega)]; omega
    rw [e1,cY l (i - 1) (by omega)]
    simp only [Option.bind_some,decide_eq_true_eq]
    repeat (any_goals split)
    all_goals try (simp only [decide_eq_true_eq,Bool.not_eq_true,Bool.not_eq_true',decide_eq_false_iff_not,bne_iff_ne,beq_iff_eq,ne_eq,Decidable.not_not] at *)
    all_goals first | rfl | (exfalso; omega) | (rw [if_pos (by omega)]) | (rw [if_neg (by omega)]) | omega
   ·simp only [decide_eq_true_eq]
    repeat (any_goals split)
    all_goals try (simp only [decide_eq_true_eq,Bool.not_eq_true,Bool.not_eq_true',decide_eq_false_iff_not,bne_iff_ne,beq_iff_eq,ne_eq,Decidable.not_not] at *)
    all_goals first | rfl | (exfalso; omega) | (rw [if_pos (by omega)]) | (rw [if_neg (by omega)]) | omega
  ·simp only [iE,kH,if_false]
 rw [hloop]
 generalize kL _ _ = b
 cases b <;> rfl
theorem o5 (a b c:Int):a9 a b c = some (decide (b ≤ a ∧ a ≤ c)):=by
 unfold a9
 by_cases h:b ≤ a <;> simp [h]
theorem C2 (l:List Int) (lo hi:Int) (hl:l.length < 9223372036854775807):fL l lo hi = some (xU l lo hi):=by
 unfold fL xU
 have hloop:mH l lo hi 0 = some (if kL (fun i=>decide (lo ≤ el l i ∧ el l i ≤ hi ∧ (0 < i→el l (i - 1) < el l i))) l.length = true then .inl () else .inr ()):=by
  refine dB? (step:=fun w=>eK l lo hi w) (fun i=>(i:Int)) l.length _ _ ?_ ?_
  ·intro i hi'
   simp only [eK,i8 hi',if_true,cY _ _ hi',Option.bind_some,o5,b9 (show i < 9223372036854775807 by omega)]
   by_cases h3:0 < i
   ·have e1:IntKind.wrap .i64 ((i:Int) - 1) = ((i - 1:Nat):Int):=by rw [dG (by omega) (by omega)]; omega
    rw [e1,cY l (i - 1) (by omega)]
    simp only [Option.bind_some,decide_eq_true_eq]
    repeat (any_goals split)
    all_goals try (simp only [decide_eq_true_eq,Bool.not_eq_true,Bool.not_eq_true',decide_eq_false_iff_not,bne_iff_ne,beq_iff_eq,ne_eq,Decidable.not_not] at *)
    all_goals first | rfl | (exfalso; omega) | (rw [if_pos (by omega)]) | (rw [if_neg (by omega)]) | omega
   ·simp only [decide_eq_true_eq]
    repeat (any_goals split)
    all_goals try (simp only [decide_eq_true_eq,Bool.not_eq_true,Bool.not_eq_true',decide_eq_false_iff_not,bne_iff_ne,beq_iff_eq,ne_eq,Decidable.not_not] at *)
    all_goals first | rfl | (exfalso; omega) | (rw [if_pos (by omega)]) | (rw [if_neg (by omega)]) | omega
  ·simp only [eK,kH,if_false]
 rw [hloop]
 generalize kL _ _ = b
 cases b <;> rfl
def J0 (r:aA) (c:bL):Bool :=
 kL (fun i=>decide (1 ≤ (el c.Feasts i).tmod 100 ∧ (el c.Feasts i).tmod 100 ≤ 31)) c.Feasts.length && (decide (c.Feasts.length ≤ 60) && (decide (c.Shut.length ≤ 200) && (decide (0 ≤ c.Order ∧ c.Order < r.Orders.length) && (decide (0 ≤ c.Currency ∧ c.Currency < r.Currencies.length) && (xU c.Rest 0 6 && (xU c.Feasts 101 1231 && xU c.Shut 0 100000))))))
theorem aF1 (r:aA) (c:bL) (h1:c.Feasts.length < 9223372036854775807) (h2:c.Rest.length < 9223372036854775807) (h3:c.Shut.length < 9223372036854775807):uX r c = some (J0 r c):=by
 unfold uX J0
 have hloop:wE r c 0 = some (if kL (fun i=>decide (1 ≤ (el c.Feasts i).tmod 100 ∧ (el c.Feasts i).tmod 100 ≤ 31)) c.Feasts.length = true then .inl () else .inr ()):=by
  refine dB? (step:=fun w=>lB r c w) (fun i=>(i:Int)) _ _ _ ?_ ?_
  ·intro i hi'
   simp only [lB,i8 hi',if_true,cY _ _ hi',Option.bind_some,b9 (show i < 9223372036854775807 by omega),decide_eq_true_eq]
   repeat (any_goals split)
   all_goals try (simp only [decide_eq_true_eq,Bool.not_eq_true,Bool.not_eq_true',decide_eq_false_iff_not,bne_iff_ne,beq_iff_eq,ne_eq,Decidable.not_not] at *)
   all_goals first | rfl | (exfalso; omega) | (rw [if_pos (by omega)]) | (rw [if_neg (by omega)]) | omega
  ·simp only [lB,kH,if_false]
 rw [hloop]
 simp only [OH,D2 _ _ _ h1,D2 _ _ _ h2,D2 _ _ _ h3,Option.bind_some,decide_eq_true_eq]
 generalize kL _ _ = b
 cases b with
 | false=>rfl
 | true =>
  simp only [if_true,Sum.elim_inl,Bool.true_and]
  by_cases g1:(c.Feasts.length:Int) > 60
  ·rw [if_pos g1,decide_eq_false (by omega)]; rfl
  rw [if_neg g1,decide_eq_true (show c.Feasts.length ≤ 60 by omega)]
  by_cases g2:(c.Shut.length:Int) > 200
  ·rw [if_pos g2,decide_eq_false (by omega)]; rfl
  rw [if_neg g2,decide_eq_true (show c.Shut.length ≤ 200 by omega)]
  generalize decide (0 ≤ c.Order ∧ c.Order < r.Orders.length) = b1
  generalize decide (0 ≤ c.Currency ∧ c.Currency < r.Currencies.length) = b2
  generalize xU c.Rest 0 6 = b3
  generalize xU c.Feasts 101 1231 = b4
  generalize xU c.Shut 0 100000 = b5
  cases b1 <;> cases b2 <;> cases b3 <;> cases b4 <;> rfl
theorem aIT (x:Int):(0 ≤ x→x.tmod 100 = x % 100 ∧ x.tdiv 100 = x / 100) ∧ (x < 0→x.tmod 100 ≤ 0):=by
 refine ⟨fun h=>⟨Int.tmod_eq_emod_of_nonneg h,Int.tdiv_eq_ediv_of_nonneg h⟩,fun h=>?_⟩
 obtain ⟨y,rfl⟩ : ∃ y,x = -y:=⟨-x,by omega⟩
 rw [Int.neg_tmod]
 have:=Int.tmod_nonneg (a:=y) 100 (by omega)
 omega
theorem aIE (x:Int):(0 ≤ x→0 ≤ x.tdiv 100 ∧ x.tdiv 100 ≤ x) ∧ (x < 0→x ≤ x.tdiv 100 ∧ x.tdiv 100 ≤ 0):=by
 constructor
 ·intro h
  rw [Int.tdiv_eq_ediv_of_nonneg h]; omega
 ·intro h
  obtain ⟨y,rfl⟩ : ∃ y,x = -y:=⟨-x,by omega⟩
  rw [Int.neg_tdiv,Int.tdiv_eq_ediv_of_nonneg (by omega)]; omega
theorem X3 (l:List Int) (hw:Wl pL l) (h:kL (fun i=>decide (1 ≤ (el l i).tmod 100 ∧ (el l i).tmod 100 ≤ 31)) l.length = true) :
  xU l 101 1231 = (kL (fun i=>decide (1 ≤ (el l i).tdiv 100 ∧ (el l i).tdiv 100 ≤ 12)) l.length && xU l 0 2000):=by
 rw [tJ] at h
 rw [Bool.eq_iff_iff,Bool.and_eq_true]
 unfold xU
 simp only [tJ,decide_eq_true_eq] at h ⊢
 constructor
 ·intro q
  exact ⟨fun i hi=>by have:=(q i hi).1; have:=(q i hi).2.1; have:=aIT (el l i); omega,fun i hi=>by have a1:=(q i hi).1; have a2:=(q i hi).2.1; exact ⟨by omega,by omega,(q i hi).2.2⟩⟩
 ·rintro ⟨q1,q2⟩ i hi
  have a1:=q1 i hi
  have a2:=(q2 i hi).1
  have a4:=(q2 i hi).2.1
  have a3:=h i hi
  have:=aIT (el l i)
  exact ⟨by omega,by omega,(q2 i hi).2.2⟩
theorem aLV {P:Int→Prop} {l:List Int} (w:Wl P l) (i:Nat) (hi:i < l.length):P (el l i):=w.2 _ (GT l i hi)
theorem T0 (r:aA) (c:bL) (h1:c.Feasts.length < 9223372036854775807) (h2:c.Rest.length < 9223372036854775807) (h3:c.Shut.length < 9223372036854775807) (h4:r.Orders.length < 9223372036854775807) (h5:r.Currencies.length < 9223372036854775807) (hw:Wl pL c.Feasts):gC r c = some (J0 r c):=by
 unfold gC J0
 have hloop:jE c 0 = some (if kL (fun i=>decide (1 ≤ (el c.Feasts i).tmod 100 ∧ (el c.Feasts i).tmod 100 ≤ 31) && decide (1 ≤ (el c.Feasts i).tdiv 100 ∧ (el c.Feasts i).tdiv 100 ≤ 12)) c.Feasts.length = true then .inl () else .inr ()):=by
  refine dB? (step:=fun w=>dE c w) (fun i=>(i:Int)) _ _ _ ?_ ?_
  ·intro i hi'
   have hb:=aLV hw i hi'
   have e1:IntKind.wrap .i64 ((el c.Feasts i).tdiv 100) = (el c.Feasts i).tdiv 100:=by
    unfold pL at hb
    have:=aIE (el c.Feasts i)
    rw [dG (by omega) (by omega)]
   simp only [dE,i8 hi',if_true,cY _ _ hi',Option.bind_some,b9 (show i < 9223372036854775807 by omega),o5,e1]
   cases decide (1 ≤ (el c.Feasts i).tmod 100 ∧ (el c.Feasts i).tmod 100 ≤ 31) <;> cases decide (1 ≤ (el c.Feasts i).tdiv 100 ∧ (el c.Feasts i).tdiv 100 ≤ 12) <;> rfl
  ·simp only [dE,kH,if_false]
 rw [hloop]
 rw [dG (by omega) (by omega),dG (by omega) (by omega)]
 simp only [o5,C2 _ _ _ h1,C2 _ _ _ h2,C2 _ _ _ h3,Option.bind_some,decide_eq_true_eq]
 have ea:kL (fun i=>decide (1 ≤ (el c.Feasts i).tmod 100 ∧ (el c.Feasts i).tmod 100 ≤ 31) && decide (1 ≤ (el c.Feasts i).tdiv 100 ∧ (el c.Feasts i).tdiv 100 ≤ 12)) c.Feasts.length = (kL (fun i=>decide (1 ≤ (el c.Feasts i).tmod 100 ∧ (el c.Feasts i).tmod 100 ≤ 31)) c.Feasts.length && kL (fun i=>decide (1 ≤ (el c.Feasts i).tdiv 100 ∧ (el c.Feasts i).tdiv 100 ≤ 12)) c.Feasts.length):=VG _ _ _
 rw [ea]
 have hf:=X3 c.Feasts hw
 have eo:decide (0 ≤ c.Order ∧ c.Order ≤ (r.Orders.length:Int) - 1) = decide (0 ≤ c.Order ∧ c.Order < r.Orders.length):=by rw [decide_eq_decide]; omega
 have ec:decide (0 ≤ c.Currency ∧ c.Currency ≤ (r.Currencies.length:Int) - 1) = decide (0 ≤ c.Currency ∧ c.Currency < r.Currencies.length):=by rw [decide_eq_decide]; omega
 rw [eo,ec]
 generalize kL (fun i=>decide (1 ≤ (el c.Feasts i).tmod 100 ∧ (el c.Feasts i).tmod 100 ≤ 31)) c.Feasts.length = b at hf
 generalize kL (fun i=>decide (1 ≤ (el c.Feasts i).tdiv 100 ∧ (el c.Feasts i).tdiv 100 ≤ 12)) c.Feasts.length = b' at hf
 generalize decide (0 ≤ c.Order ∧ c.Order < r.Orders.length) = b1
 generalize decide (0 ≤ c.Currency ∧ c.Currency < r.Currencies.length) = b2
 by_cases g1:(c.Feasts.length:Int) > 60
 ·rw [if_pos g1,decide_eq_false (show ¬ c.Feasts.length ≤ 60 by omega)]
  cases b1 <;> cases b2 <;> cases b <;> rfl
 rw [if_neg g1,decide_eq_true (show c.Feasts.length ≤ 60 by omega)]
 by_cases g2:(c.Shut.length:Int) > 200
 ·rw [if_pos g2,decide_eq_false (show ¬ c.Shut.length ≤ 200 by omega)]
  cases b1 <;> cases b2 <;> cases b <;> rfl
 rw [if_neg g2,decide_eq_true (show c.Shut.length ≤ 200 by omega)]
 cases b with
 | false=>cases b1 <;> cases b2 <;> rfl
 | true =>
  rw [hf rfl]
  generalize xU c.Rest 0 6 = b3
  generalize xU c.Feasts 0 2000 = b4
  generalize xU c.Shut 0 100000 = b5
  cases b1 <;> cases b2 <;> cases b' <;> cases b3 <;> cases b4 <;> rfl
def GC (o:bD):Bool:=kL (fun i=>decide (0 ≤ (el o.Choices i).By ∧ (el o.Choices i).By < 5)) o.Choices.length && (xU (o.Choices.map (·.Ask)) 0 21 && xU (o.Rules.map (·.Ask)) 0 21)
theorem E0 {α β:Type} [Inhabited α] [Inhabited β] (f:α→β) (l:List α) (i:Nat) (h:i < l.length):el (l.map f) i = f (el l i):=by
 rw [vV _ _ (by simpa using h),vV _ _ h]; simp
theorem yY {α:Type} [Inhabited α] (l:List α) (i:Nat) (h:i < l.length):l.take i ++ [el l i] = l.take (i + 1):=by
 rw [vV l i h,List.take_append_getElem h]
theorem aEN (o:bD) (h1:o.Choices.length < 6000000000000) (h2:o.Rules.length < 6000000000000):sD o = some (GC o):=by
 unfold sD GC
 have l1:uC o 0 [] = some (if kL (fun i=>decide (0 ≤ (el o.Choices i).By ∧ (el o.Choices i).By < 5)) o.Choices.length = true then .inl (o.Choices.map (·.Ask)) else .inr ()):=by
  have:=dB? (step:=fun w=>jZ o w.1 w.2) (fun i=>((i:Int),(o.Choices.take i).map (·.Ask))) o.Choices.length (fun i=>decide (0 ≤ (el o.Choices i).By ∧ (el o.Choices i).By < 5)) (o.Choices.map (·.Ask)) ?_ ?_
  ·exact this
  ·intro i hi
   have hlen:((o.Choices.take i).map (·.Ask)).length = i:=by simp; omega
   simp only [jZ,i8 hi,if_true,cY _ _ hi,Option.bind_some,b9 (show i < 9223372036854775807 by omega),OH,hlen]
   rw [if_pos (by omega)]
   have:(o.Choices.take i).map (·.Ask) ++ [(el o.Choices i).Ask] = (o.Choices.take (i + 1)).map (·.Ask):=by rw [← yY _ _ hi]; simp
   rw [this]
   generalize decide (0 ≤ (el o.Choices i).By ∧ (el o.Choices i).By < 5) = b
   cases b <;> rfl
  ·simp only [jZ,kH,if_false]
   simp
 have l2:∀ z,uE o z 0 [] = some (o.Rules.map (·.Ask)):=by
  intro z
  have:=dB (step:=fun w=>jX o z w.1 w.2) (fun i=>((i:Int),(o.Rules.take i).map (·.Ask))) o.Rules.length (o.Rules.map (·.Ask)) ?_ ?_
  ·exact this
  ·intro i hi
   have hlen:((o.Rules.take i).map (·.Ask)).length = i:=by simp; omega
   simp only [jX,i8 hi,if_true,cY _ _ hi,Option.bind_some,b9 (show i < 9223372036854775807 by omega),hlen]
   rw [if_pos (by omega)]
   have:(o.Rules.take i).map (·.Ask) ++ [(el o.Rules i).Ask] = (o.Rules.take (i + 1)).map (·.Ask):=by rw [← yY _ _ hi]; simp
   rw [this]
  ·simp only [jX,kH,if_false]
   simp
 rw [l1]
 generalize kL _ _ = b
 cases b with
 | false=>rfl
 | true =>
  simp only [if_true,Option.bind_some,Sum.elim_inl,l2]
  rw [D2 _ _ _ (by simp; omega),D2 _ _ _ (by simp; omega)]
  generalize xU (o.Choices.map (·.Ask)) 0 21 = b1
  generalize xU (o.Rules.map (·.Ask)) 0 21 = b2
  cases b1 <;> cases b2 <;> rfl
theorem QX (o:bD) (h1:o.Choices.length < 6000000000000) (h2:o.Rules.length < 6000000000000):fQ o = some (GC o):=by
 unfold fQ GC
 have l1:iR o 0 = some (if kL (fun i=>decide ((0 ≤ (el o.Choices i).By ∧ (el o.Choices i).By < 5) ∧ 0 ≤ (el o.Choices i).Ask ∧ (el o.Choices i).Ask ≤ 21 ∧ (0 < i→(el o.Choices (i - 1)).Ask < (el o.Choices i).Ask))) o.Choices.length = true then .inl () else .inr ()):=by
  refine dB? (step:=fun w=>dA o w) (fun i=>(i:Int)) _ _ _ ?_ ?_
  ·intro i hi'
   simp only [dA,i8 hi',if_true,cY _ _ hi',Option.bind_some,o5,b9 (show i < 9223372036854775807 by omega)]
   by_cases h3:0 < i
   ·have e1:IntKind.wrap .i64 ((i:Int) - 1) = ((i - 1:Nat):Int):=by rw [dG (by omega) (by omega)]; omega
    rw [e1,cY o.Choices (i - 1) (by omega)]
    simp only [Option.bind_some,decide_eq_true_eq]
    repeat (any_goals split)
    all_goals try (simp only [decide_eq_true_eq,Bool.not_eq_true,Bool.not_eq_true',decide_eq_false_iff_not,bne_iff_ne,beq_iff_eq,ne_eq,Decidable.not_not] at *)
    all_goals first | rfl | (exfalso; omega) | (rw [if_pos (by omega)]) | (rw [if_neg (by omega)]) | omega
   ·simp only [decide_eq_true_eq]
    repeat (any_goals split)
    all_goals try (simp only [decide_eq_true_eq,Bool.not_eq_true,Bool.not_eq_true',decide_eq_false_iff_not,bne_iff_ne,beq_iff_eq,ne_eq,Decidable.not_not] at *)
    all_goals first | rfl | (exfalso; omega) | (rw [if_pos (by omega)]) | (rw [if_neg (by omega)]) | omega
  ·simp only [dA,kH,if_false]
 have l2:iS o 0 = some (if kL (fun i=>decide (0 ≤ (el o.Rules i).Ask ∧ (el o.Rules i).Ask ≤ 21 ∧ (0 < i→(el o.Rules (i - 1)).Ask < (el o.Rules i).Ask))) o.Rules.length = true then .inl () else .inr ()):=by
  refine dB? (step:=fun w=>cZ o w) (fun i=>(i:Int)) _ _ _ ?_ ?_
  ·intro i hi'
   simp only [cZ,i8 hi',if_true,cY _ _ hi',Option.bind_some,o5,b9 (show i < 9223372036854775807 by omega)]
   by_cases h3:0 < i
   ·have e1:IntKind.wrap .i64 ((i:Int) - 1) = ((i - 1:Nat):Int):=by rw [dG (by omega) (by omega)]; omega
    rw [e1,cY o.Rules (i - 1) (by omega)]
    simp only [Option.bind_some,decide_eq_true_eq]
    repeat (any_goals split)
    all_goals try (simp only [decide_eq_true_eq,Bool.not_eq_true,Bool.not_eq_true',decide_eq_false_iff_not,bne_iff_ne,beq_iff_eq,ne_eq,Decidable.not_not] at *)
    all_goals first | rfl | (exfalso; omega) | (rw [if_pos (by omega)]) | (rw [if_neg (by omega)]) | omega
   ·simp only [decide_eq_true_eq]
    repeat (any_goals split)
    all_goals try (simp only [decide_eq_true_eq,Bool.not_eq_true,Bool.not_eq_true',decide_eq_false_iff_not,bne_iff_ne,beq_iff_eq,ne_eq,Decidable.not_not] at *)
    all_goals first | rfl | (exfalso; omega) | (rw [if_pos (by omega)]) | (rw [if_neg (by omega)]) | omega
  ·simp only [cZ,kH,if_false]
 have r1:kL (fun i=>decide ((0 ≤ (el o.Choices i).By ∧ (el o.Choices i).By < 5) ∧ 0 ≤ (el o.Choices i).Ask ∧ (el o.Choices i).Ask ≤ 21 ∧ (0 < i→(el o.Choices (i - 1)).Ask < (el o.Choices i).Ask))) o.Choices.length = (kL (fun i=>decide (0 ≤ (el o.Choices i).By ∧ (el o.Choices i).By < 5)) o.Choices.length && xU (o.Choices.map (·.Ask)) 0 21):=by
  unfold xU
  rw [List.length_map,← VG]
  refine N1 fun i hi=>?_
  rw [E0 _ _ _ hi,← Bool.decide_and]
  by_cases h0:0 < i
  ·rw [E0 _ _ _ (by omega)]
  ·rw [decide_eq_decide]; simp [h0]
 have r2:kL (fun i=>decide (0 ≤ (el o.Rules i).Ask ∧ (el o.Rules i).Ask ≤ 21 ∧ (0 < i→(el o.Rules (i - 1)).Ask < (el o.Rules i).Ask))) o.Rules.length = xU (o.Rules.map (·.Ask)) 0 21:=by
  unfold xU
  rw [List.length_map]
  refine N1 fun i hi=>?_
  rw [E0 _ _ _ hi]
  by_cases h0:0 < i
  ·rw [E0 _ _ _ (by omega)]
  ·rw [decide_eq_decide]; simp [h0]
 rw [l1,l2,r1,r2]
 generalize kL _ _ = b
 generalize xU (o.Choices.map (·.Ask)) 0 21 = b1
 generalize xU (o.Rules.map (·.Ask)) 0 21 = b2
 cases b <;> cases b1 <;> cases b2 <;> rfl
def uO (l:List ByteArray) (F:Nat→Bool) (i:Nat):Int:=if nK l i = 0 then (if F i = true then 0 else 1) else nK l i
def AN (l:List ByteArray) (most:Nat) (F:Nat→Bool):Int:=if l.length ≤ most then vJ (uO l F) l.length else 6
theorem NR {S:Type} {step:S→Option (S ⊕ (Unit ⊕ Int))} (st:Nat→S) (n:Nat) (g:Nat→Int)
  (h:∀ i,i < n→step (st i) = some (CV (st (i + 1)) (g i))) (he:step (st n) = some (.inr (.inl ()))):(fA step (st 0)).bind (fun r=>Sum.elim (fun _=>some (0:Int)) (fun z=>some z) r) = some (vJ g n):=by
 rw [rG st n (fun i=>if g i = 0 then none else some (g i)) () (fun i hi=>by rw [h i hi]; unfold CV; by_cases e:g i = 0 <;> simp [e]) he]
 simp only [Option.bind_some,OU ()]
 rfl
theorem M7 (l:List ByteArray) (hl:l.length < 9223372036854775807) (most:Nat) (step:Int→Option (Int ⊕ (Unit ⊕ Int))) (fine:Int→Option Bool)
  (hs:∀ p,step p = if decide (p < (l.length:Int)) = true then (lT l p).bind fun (r2:Int)=>if (r2 != 0) = true then some (.inr (.inr (r2))) else (fine p).bind fun (r3:Bool)=>if (!(r3)) = true then some (.inr (.inr (1))) else some (.inl (IntKind.wrap .i64 (p + 1))) else some (.inr (.inl ())))
  (F:Nat→Bool) (hf:∀ i,i < l.length→fine (i:Int) = some (F i)) :
  (if decide ((l.length:Int) > (most:Int)) = true then some 6 else (fA step 0).bind fun r5=>Sum.elim (fun z6=>some (0:Int)) (fun z7=>some z7) r5) = some (AN l most F):=by
 unfold AN
 by_cases g:l.length ≤ most
 ·rw [if_pos g,decide_eq_false (by omega)]
  simp only [Bool.false_eq_true,if_false]
  refine NR (step:=step) (fun i=>(i:Int)) l.length _ ?_ ?_
  ·intro i hi
   rw [hs]
   simp only [i8 hi,if_true,aEB l i hi hl,hf i hi,Option.bind_some,b9 (show i < 9223372036854775807 by omega),uO]
   generalize nK l i = e
   generalize F i = b
   by_cases h0:e = 0
   ·cases b <;> simp [h0,CV]
   ·simp [h0,CV]
  ·rw [hs]; simp only [kH,if_false]
 ·rw [if_neg g,decide_eq_true (by omega)]
  rfl
theorem W0 (l:List ByteArray) (x:ByteArray) (n m:Nat) (h:n ≤ m) (hm:m ≤ l.length):tB (l.take m) x n = tB l x n:=by
 unfold tB
 refine E7 _ _ (fun j h1 h2=>?_) rfl
 rw [vV _ _ (by simp; omega),vV _ _ (by omega)]
 simp
theorem V1 (l:List ByteArray) (i:Nat) (h:i < l.length):nK (l.take (i + 1)) i = nK l i:=by
 unfold nK
 rw [W0 l _ i (i + 1) (by omega) (by omega)]
 have:el (l.take (i + 1)) i = el l i:=by rw [vV _ _ (by simp; omega),vV _ _ h]; simp
 rw [this]
def usB (r:aA) (i k:Nat):Bool:=decide ((el r.Usances k).From = (el r.Usances i).From ∧ (el r.Usances k).To = (el r.Usances i).To)
def aDI (r:aA) (i:Nat):Int:=if (0 ≤ (el r.Usances i).From ∧ (el r.Usances i).From < r.Cities.length) ∧ (0 ≤ (el r.Usances i).To ∧ (el r.Usances i).To < r.Cities.length) ∧ 1 ≤ (el r.Usances i).Days ∧ (el r.Usances i).Days ≤ 20000 then (if kL (fun k=>!usB r i k) i = true then 0 else 5) else 1
def UF (r:aA):Int:=if r.Usances.length ≤ 100 then vJ (aDI r) r.Usances.length else 6
theorem YM (r:aA) (h:r.Usances.length < 100000000000000):pA r = some (UF r):=by
 unfold pA UF
 by_cases g:r.Usances.length ≤ 100
 ·rw [if_pos g,decide_eq_false (by omega)]
  simp only [Bool.false_eq_true,if_false]
  refine NR (step:=fun w=>gU r w) (fun i=>(i:Int)) r.Usances.length _ ?_ ?_
  ·intro i hi
   have hin:qX r i (el r.Usances i) 0 = some (if kL (fun k=>!usB r i k) i = true then .inl () else .inr ()):=by
    have hsl:(dX r.Usances 0 (i:Int)).length = i:=by simp [dX]; omega
    refine dB? (step:=fun w=>gP r i (el r.Usances i) w) (fun k=>(k:Int)) i _ _ ?_ ?_
    ·intro k hk
     have e1:el (dX r.Usances 0 (i:Int)) k = el r.Usances k:=by rw [vV _ _ (by omega),vV _ _ (by omega)]; simp [dX]
     simp only [gP,hsl,i8 hk,if_true,cY (dX r.Usances 0 (i:Int)) k (by omega),e1,Option.bind_some,b9 (show k < 9223372036854775807 by omega),beq_iff_eq,usB]
     by_cases a1:(el r.Usances k).From = (el r.Usances i).From <;> by_cases a2:(el r.Usances k).To = (el r.Usances i).To <;> simp [a1,a2]
    ·simp only [gP,hsl,kH,if_false]
   simp only [gU,i8 hi,if_true,cY _ _ hi,Option.bind_some,b9 (show i < 9223372036854775807 by omega),OH,decide_eq_true_eq,hin,aDI]
   rw [if_pos (show kM r.Usances.length 0 (i:Int) from ⟨Int.le_refl _,by omega,by omega⟩)]
   generalize kL _ _ = b
   generalize el r.Usances i = u
   by_cases g1:0 ≤ u.From ∧ u.From < r.Cities.length
   ·by_cases g2:0 ≤ u.To ∧ u.To < r.Cities.length
    ·by_cases g3:u.Days < 1
     ·rw [if_neg (show ¬ (_ ∧ _ ∧ _ ∧ _) from fun q=>absurd q.2.2.1 (by omega))]
      simp [g1,g2,g3,CV]
     by_cases g4:u.Days > 20000
     ·rw [if_neg (show ¬ (_ ∧ _ ∧ _ ∧ _) from fun q=>absurd q.2.2.2 (by omega))]
      simp [g1,g2,g3,g4,CV]
     ·rw [if_pos (show _ ∧ _ ∧ _ ∧ _ from ⟨g1,g2,by omega,by omega⟩)]
      cases b <;> simp [g1,g2,g3,g4,CV]
    ·rw [if_neg (show ¬ (_ ∧ _ ∧ _ ∧ _) from fun q=>g2 q.2.1)]
     simp [g1,g2,CV]
   ·rw [if_neg (show ¬ (_ ∧ _ ∧ _ ∧ _) from fun q=>g1 q.1)]
    simp [g1,CV]
  ·simp only [gU,kH,if_false]
 ·rw [if_neg g,decide_eq_true (by omega)]
  rfl
theorem N2 (r:aA) (h:r.Usances.length < 100000000000000) (hc:r.Cities.length < 6000000000000):gZ r = some (UF r):=by
 unfold gZ UF
 by_cases g:r.Usances.length ≤ 100
 ·rw [if_pos g,decide_eq_false (by omega)]
  simp only [Bool.false_eq_true,if_false]
  refine NR (step:=fun w=>dY r w) (fun i=>(i:Int)) r.Usances.length _ ?_ ?_
  ·intro i hi
   have hin:lN r i (el r.Usances i) 0 = some (if kL (fun k=>!usB r i k) i = true then .inl () else .inr ()):=by
    refine dB? (step:=fun w=>dV r i (el r.Usances i) w) (fun k=>(k:Int)) i _ _ ?_ ?_
    ·intro k hk
     simp only [dV,i8 hk,if_true,cY r.Usances k (by omega),Option.bind_some,b9 (show k < 9223372036854775807 by omega),beq_iff_eq,usB]
     by_cases a1:(el r.Usances k).From = (el r.Usances i).From <;> by_cases a2:(el r.Usances k).To = (el r.Usances i).To <;> simp [a1,a2]
    ·simp only [dV,kH,if_false]
   have ew:IntKind.wrap .i64 ((r.Cities.length:Int) - 1) = (r.Cities.length:Int) - 1:=dG (by omega) (by omega)
   simp only [dY,i8 hi,if_true,cY _ _ hi,Option.bind_some,b9 (show i < 9223372036854775807 by omega),o5,ew,hin,aDI]
   generalize kL _ _ = b
   generalize el r.Usances i = u
   have eu:((0 ≤ u.From ∧ u.From < r.Cities.length) ∧ (0 ≤ u.To ∧ u.To < r.Cities.length) ∧ 1 ≤ u.Days ∧ u.Days ≤ 20000) ↔ ((0 ≤ u.From ∧ u.From ≤ (r.Cities.length:Int) - 1) ∧ (0 ≤ u.To ∧ u.To ≤ (r.Cities.length:Int) - 1) ∧ 1 ≤ u.Days ∧ u.Days ≤ 20000):=by omega
   simp only [eu]
   by_cases g1:0 ≤ u.From ∧ u.From ≤ (r.Cities.length:Int) - 1
   ·by_cases g2:0 ≤ u.To ∧ u.To ≤ (r.Cities.length:Int) - 1
    ·by_cases g3:1 ≤ u.Days ∧ u.Days ≤ 20000
     ·cases b <;> simp [g1,g2,g3,CV]
     ·simp [g1,g2,g3,CV]
    ·simp [g1,g2,CV]
   ·simp [g1,CV]
  ·simp only [dY,kH,if_false]
 ·rw [if_neg g,decide_eq_true (by omega)]
  rfl
def NW (r:aA) (x:bX):Bool:=decide ((0 ≤ x.From ∧ x.From < r.Currencies.length) ∧ (0 ≤ x.To ∧ x.To < r.Currencies.length) ∧ x.From ≠ x.To ∧ (1 ≤ x.Num ∧ x.Num ≤ 1073741824) ∧ (1 ≤ x.Den ∧ x.Den ≤ 1073741824) ∧ 0 ≤ x.Since ∧ x.Since ≤ 100000)
def NZ (r:aA) (x:bZ):Bool:=decide ((0 ≤ x.Order ∧ x.Order < r.Orders.length) ∧ 0 ≤ x.From ∧ x.From ≤ x.To ∧ x.To ≤ 100000)
def GU (r:aA):Int:=if r.Rates.length ≤ 100 then (if kL (fun i=>NW r (el r.Rates i)) r.Rates.length = true then (if r.Halts.length ≤ 20 then (if kL (fun i=>NZ r (el r.Halts i)) r.Halts.length = true then 0 else 1) else 6) else 1) else 6
theorem QI (n:Int) (h:pL n):(0 ≤ IntKind.wrap .i64 (n - 1) ∧ IntKind.wrap .i64 (n - 1) < 1073741824) ↔ (1 ≤ n ∧ n ≤ 1073741824):=by
 unfold pL at h
 by_cases e:n = -9223372036854775808
 ·subst e
  have:IntKind.wrap .i64 (-9223372036854775808 - 1) = 9223372036854775807:=by decide
  rw [this]; omega
 ·rw [dG (by omega) (by omega)]; omega
theorem aH5 (r:aA) (h1:r.Rates.length < 100000000000000) (h2:r.Halts.length < 100000000000000) (hw:Wl bX.wf r.Rates):uS r = some (GU r):=by
 unfold uS GU
 have l1:vZ r 0 = some (if kL (fun i=>NW r (el r.Rates i)) r.Rates.length = true then .inl () else .inr ()):=by
  refine dB? (step:=fun w=>lF r w) (fun i=>(i:Int)) _ _ _ ?_ ?_
  ·intro i hi
   have hx:=hw.2 _ (GT r.Rates i hi)
   simp only [lF,i8 hi,if_true,cY _ _ hi,Option.bind_some,b9 (show i < 9223372036854775807 by omega),OH,NW]
   generalize el r.Rates i = x at hx
   have a1:=QI x.Num hx.2.2.1
   have a2:=QI x.Den hx.2.2.2.1
   simp only [a1,a2,Bool.not_eq_true',decide_eq_false_iff_not,beq_iff_eq,decide_eq_true_eq]
   repeat (any_goals split)
   all_goals try (simp only [decide_eq_true_eq,Bool.not_eq_true,Bool.not_eq_true',decide_eq_false_iff_not,bne_iff_ne,beq_iff_eq,ne_eq,Decidable.not_not] at *)
   all_goals first | rfl | (exfalso; omega) | (rw [if_pos (by omega)]) | (rw [if_neg (by omega)]) | omega
  ·simp only [lF,kH,if_false]
 have l2:vL r 0 = some (if kL (fun i=>NZ r (el r.Halts i)) r.Halts.length = true then .inl () else .inr ()):=by
  refine dB? (step:=fun w=>lE r w) (fun i=>(i:Int)) _ _ _ ?_ ?_
  ·intro i hi
   simp only [lE,i8 hi,if_true,cY _ _ hi,Option.bind_some,b9 (show i < 9223372036854775807 by omega),OH,NZ]
   generalize el r.Halts i = x
   simp only [Bool.not_eq_true',decide_eq_false_iff_not,beq_iff_eq,decide_eq_true_eq]
   repeat (any_goals split)
   all_goals try (simp only [decide_eq_true_eq,Bool.not_eq_true,Bool.not_eq_true',decide_eq_false_iff_not,bne_iff_ne,beq_iff_eq,ne_eq,Decidable.not_not] at *)
   all_goals first | rfl | (exfalso; omega) | (rw [if_pos (by omega)]) | (rw [if_neg (by omega)]) | omega
  ·simp only [lE,kH,if_false]
 rw [l1,l2]
 generalize kL (fun i=>NW r (el r.Rates i)) r.Rates.length = b1
 generalize kL (fun i=>NZ r (el r.Halts i)) r.Halts.length = b2
 by_cases g1:r.Rates.length ≤ 100
 ·rw [decide_eq_false (show ¬ (r.Rates.length:Int) > 100 by omega),if_pos g1]
  by_cases g2:r.Halts.length ≤ 20
  ·rw [decide_eq_false (show ¬ (r.Halts.length:Int) > 20 by omega),if_pos g2]
   cases b1 <;> cases b2 <;> rfl
  ·rw [decide_eq_true (show (r.Halts.length:Int) > 20 by omega),if_neg g2]
   cases b1 <;> cases b2 <;> rfl
 ·rw [decide_eq_true (show (r.Rates.length:Int) > 100 by omega),if_neg g1]
  rfl
theorem T7 (r:aA) (h1:r.Rates.length < 100000000000000) (h2:r.Halts.length < 100000000000000) (h3:r.Currencies.length < 100000000000000) (h4:r.Orders.length < 6000000000000):iM r = some (GU r):=by
 unfold iM GU
 have ew:IntKind.wrap .i64 ((r.Currencies.length:Int) - 1) = (r.Currencies.length:Int) - 1:=dG (by omega) (by omega)
 have ew2:IntKind.wrap .i64 ((r.Orders.length:Int) - 1) = (r.Orders.length:Int) - 1:=dG (by omega) (by omega)
 have l1:mA r 0 = some (if kL (fun i=>NW r (el r.Rates i)) r.Rates.length = true then .inl () else .inr ()):=by
  refine dB? (step:=fun w=>eC r w) (fun i=>(i:Int)) _ _ _ ?_ ?_
  ·intro i hi
   simp only [eC,i8 hi,if_true,cY _ _ hi,Option.bind_some,b9 (show i < 9223372036854775807 by omega),o5,NW,ew]
   generalize el r.Rates i = x
   simp only [Bool.not_eq_true',decide_eq_false_iff_not,beq_iff_eq,decide_eq_true_eq]
   repeat (any_goals split)
   all_goals try (simp only [decide_eq_true_eq,Bool.not_eq_true,Bool.not_eq_true',decide_eq_false_iff_not,bne_iff_ne,beq_iff_eq,ne_eq,Decidable.not_not] at *)
   all_goals first | rfl | (exfalso; omega) | (rw [if_pos (by omega)]) | (rw [if_neg (by omega)]) | omega
  ·simp only [eC,kH,if_false]
 have l2:mT r 0 = some (if kL (fun i=>NZ r (el r.Halts i)) r.Halts.length = true then .inl () else .inr ()):=by
  refine dB? (step:=fun w=>eI r w) (fun i=>(i:Int)) _ _ _ ?_ ?_
  ·intro i hi
   simp only [eI,i8 hi,if_true,cY _ _ hi,Option.bind_some,b9 (show i < 9223372036854775807 by omega),o5,NZ,ew2]
   generalize el r.Halts i = x
   simp only [Bool.not_eq_true',decide_eq_false_iff_not,beq_iff_eq,decide_eq_true_eq]
   repeat (any_goals split)
   all_goals try (simp only [decide_eq_true_eq,Bool.not_eq_true,Bool.not_eq_true',decide_eq_false_iff_not,bne_iff_ne,beq_iff_eq,ne_eq,Decidable.not_not] at *)
   all_goals first | rfl | (exfalso; omega) | (rw [if_pos (by omega)]) | (rw [if_neg (by omega)]) | omega
  ·simp only [eI,kH,if_false]
 rw [l1,l2]
 generalize kL (fun i=>NW r (el r.Rates i)) r.Rates.length = b1
 generalize kL (fun i=>NZ r (el r.Halts i)) r.Halts.length = b2
 by_cases g1:r.Rates.length ≤ 100
 ·rw [decide_eq_false (show ¬ (r.Rates.length:Int) > 100 by omega),if_pos g1]
  by_cases g2:r.Halts.length ≤ 20
  ·rw [decide_eq_false (show ¬ (r.Halts.length:Int) > 20 by omega),if_pos g2]
   cases b1 <;> cases b2 <;> rfl
  ·rw [decide_eq_true (show (r.Halts.length:Int) > 20 by omega),if_neg g2]
   cases b1 <;> cases b2 <;> rfl
 ·rw [decide_eq_true (show (r.Rates.length:Int) > 100 by omega),if_neg g1]
  rfl
def HH (a b:Int):Int:=if a = 0 then b else a
def LY (r:aA) (x:bU):Bool:=decide ((0 ≤ x.City ∧ x.City < r.Cities.length) ∧ 0 ≤ x.Group ∧ x.Group < r.Groups.length)
def QB (r:aA):Int:=if r.Groups.length ≤ 20 then (if kL (fun i=>decide (0 ≤ (el r.Groups i).Grade ∧ (el r.Groups i).Grade < 10)) r.Groups.length = true then 0 else 1) else 6
def OK (r:aA):Int:=AN r.Currencies 8 (fun _=>true)
def OE (r:aA):Int:=AN (r.Cities.map (·.Name)) 40 (fun i=>J0 r (el r.Cities i))
def O2 (r:aA):Int:=AN (r.Firms.map (·.Name)) 200 (fun i=>LY r (el r.Firms i))
def O0 (r:aA):Int:=AN (r.Orders.map (·.Name)) 20 (fun i=>GC (el r.Orders i))
def BP (r:aA):Int:=HH (OK r) (HH (OE r) (HH (QB r) (HH (O2 r) (HH (O0 r) (HH (UF r) (GU r))))))
theorem QC (r:aA) (f:wT r) (w:aA.wf r):sM r = some (BP r):=by
 obtain ⟨w1,w2,w3,w4,w5,w6,w7,w8⟩:=w
 have hcl:(r.Cities.map (·.Name)).length = r.Cities.length:=by simp
 have hfl:(r.Firms.map (·.Name)).length = r.Firms.length:=by simp
 have hol:(r.Orders.map (·.Name)).length = r.Orders.length:=by simp
 have a1:pF r.Currencies 8 = some (OK r):=by
  unfold pF
  exact M7 r.Currencies (by have:=f.cur; omega) 8 (fun w=>mV r.Currencies w) rL (fun p=>rfl) (fun _=>true) (fun i hi=>rfl)
 have a2:o4 (r.Cities.map (·.Name)) 40 r = some (OE r):=by
  unfold o4
  refine M7 (r.Cities.map (·.Name)) (by have:=f.cit; omega) 40 (fun w=>mX (r.Cities.map (·.Name)) r w) (fun p=>mO p r) (fun p=>rfl) _ (fun i hi=>?_)
  rw [hcl] at hi
  obtain ⟨q1,q2,q3⟩:=f.cityL i hi
  simp only [mO,cY _ _ hi,Option.bind_some,aF1 r (el r.Cities i) (by omega) (by omega) (by omega)]
 have a3:pG (r.Firms.map (·.Name)) 200 r = some (O2 r):=by
  unfold pG
  refine M7 (r.Firms.map (·.Name)) (by have:=f.frm; omega) 200 (fun w=>mZ (r.Firms.map (·.Name)) r w) (fun p=>mC p r) (fun p=>rfl) _ (fun i hi=>?_)
  rw [hfl] at hi
  simp only [mC,cY _ _ hi,Option.bind_some,OH,decide_eq_true_eq,LY]
  by_cases g:0 ≤ (el r.Firms i).City ∧ (el r.Firms i).City < r.Cities.length <;> simp [g]
 have a4:o0 (r.Orders.map (·.Name)) 20 r = some (O0 r):=by
  unfold o0
  refine M7 (r.Orders.map (·.Name)) (by have:=f.ord; omega) 20 (fun w=>mW (r.Orders.map (·.Name)) r w) (fun p=>mJ p r) (fun p=>rfl) _ (fun i hi=>?_)
  rw [hol] at hi
  obtain ⟨q1,q2⟩:=f.orderL i hi
  simp only [mJ,cY _ _ hi,Option.bind_some,aEN (el r.Orders i) (by omega) (by omega)]
 have a5:∀ z,uF r z 0 = some (if kL (fun i=>decide (0 ≤ (el r.Groups i).Grade ∧ (el r.Groups i).Grade < 10)) r.Groups.length = true then .inl () else .inr ()):=by
  intro z
  refine dB? (step:=fun w=>j7 r z w) (fun i=>(i:Int)) _ _ _ ?_ ?_
  ·intro i hi
   have:=f.grp
   simp only [j7,i8 hi,if_true,cY _ _ hi,Option.bind_some,b9 (show i < 9223372036854775807 by omega),OH]
   generalize decide (0 ≤ (el r.Groups i).Grade ∧ (el r.Groups i).Grade < 10) = b
   cases b <;> rfl
  ·simp only [j7,kH,if_false]
 unfold sM BP
 simp only [aDQ r f,Option.bind_some,a1,a2,a3,a4,a5,YM r f.usa,aH5 r f.rat f.hal w7]
 generalize OK r = e1
 generalize OE r = e2
 generalize O2 r = e3
 generalize O0 r = e4
 generalize UF r = e5
 generalize GU r = e6
 unfold QB
 generalize kL _ _ = b
 unfold HH
 by_cases z1:e1 = 0
 ·by_cases z2:e2 = 0
  ·by_cases gg:r.Groups.length ≤ 20
   ·have gg' : ¬ (r.Groups.length:Int) > 20:=by omega
    cases b with
    | false=>simp [z1,z2,gg,gg']
    | true =>
     by_cases z3:e3 = 0
     ·by_cases z4:e4 = 0
      ·by_cases z5:e5 = 0 <;> simp [z1,z2,gg,gg',z3,z4,z5]
      ·simp [z1,z2,gg,gg',z3,z4]
     ·simp [z1,z2,gg,gg',z3]
   ·have gg' : (r.Groups.length:Int) > 20:=by omega
    simp [z1,z2,gg,gg']
  ·simp [z1,z2]
 ·simp [z1]
theorem OR (l:List ByteArray) (i:Nat) (h:i < l.length) (hl:l.length < 6000000000001):dF (l.take i ++ [el l i]) i = some (nK l i):=by
 rw [yY l i h,JY _ i (by simp; omega) (by simp; omega),V1 l i h]
theorem WB (names:List ByteArray) (hl:names.length < 6000000000001) (i:Nat) (hi:i < names.length) (F:Nat→Bool) (right:Option Bool) (hF:right = some (F i)) :
  (dF (names.take i ++ [el names i]) i).bind (fun (r10:Int)=>if (r10 != 0) = true then (some (.inr (.inr r10)):Option ((Int × List ByteArray) ⊕ (Unit ⊕ Int))) else right.bind fun (r12:Bool)=>if (!(r12)) = true then some (.inr (.inr 1)) else some (.inl (IntKind.wrap .i64 ((i:Int) + 1),names.take i ++ [el names i]))) = some (CV (((i + 1:Nat):Int),names.take (i + 1)) (uO names F i)):=by
 rw [OR names i hi hl,hF,yY names i hi,b9 (show i < 9223372036854775807 by omega)]
 simp only [Option.bind_some]
 unfold uO
 generalize F i = b
 by_cases e:nK names i = 0
 ·cases b <;> simp [e,CV]
 ·simp [e,CV]
theorem P0 (r:aA) (f:wT r) (w:aA.wf r):iP r = some (HH (OK r) (OE r)):=by
 obtain ⟨w1,w2,w3,w4,w5,w6,w7,w8⟩:=w
 have c1:=f.cur
 have c2:=f.cit
 have c3:=f.ord
 have l1:mM r 0 = some (NI () (NA (uO r.Currencies (fun _=>true)) r.Currencies.length)):=by
  refine uR (step:=fun w=>eL r w) (fun i=>(i:Int)) _ _ ?_ ?_
  ·intro i hi
   simp only [eL,i8 hi,if_true,JY _ i hi (by omega),Option.bind_some,b9 (show i < 9223372036854775807 by omega),uO]
   by_cases e:nK r.Currencies i = 0 <;> simp [e,CV]
  ·simp only [eL,kH,if_false]
 have hcl:(r.Cities.map (·.Name)).length = r.Cities.length:=by simp
 have l2:mL r 0 [] = some (NI () (NA (uO (r.Cities.map (·.Name)) (fun i=>J0 r (el r.Cities i))) r.Cities.length)):=by
  refine uR (step:=fun w=>eG r w.1 w.2) (fun i=>((i:Int),(r.Cities.map (·.Name)).take i)) _ _ ?_ ?_
  ·intro i hi
   obtain ⟨q1,q2,q3⟩:=f.cityL i hi
   have hlen:((r.Cities.map (·.Name)).take i).length = i:=by simp; omega
   have hcw:=(w2.2 _ (GT r.Cities i hi)).2.2.2.2.1
   simp only [eG,i8 hi,if_true,cY _ _ hi,Option.bind_some,hlen]
   rw [if_pos (by omega),← E0 (·.Name) r.Cities i hi]
   exact WB (r.Cities.map (·.Name)) (by omega) i (by omega) (fun i=>J0 r (el r.Cities i)) _ (T0 r (el r.Cities i) (by omega) (by omega) (by omega) (by omega) (by omega) hcw)
  ·simp only [eG,kH,if_false]
 unfold iP
 rw [l1,l2]
 simp only [Option.bind_some,G7]
 unfold OK OE AN
 rw [hcl]
 generalize vJ (uO r.Currencies (fun _=>true)) r.Currencies.length = e1
 generalize vJ (uO (r.Cities.map (·.Name)) (fun i=>J0 r (el r.Cities i))) r.Cities.length = e2
 unfold HH
 by_cases g1:r.Currencies.length ≤ 8
 ·have g1' : ¬ (r.Currencies.length:Int) > 8:=by omega
  by_cases z1:e1 = 0
  ·by_cases g2:r.Cities.length ≤ 40
   ·have g2' : ¬ (r.Cities.length:Int) > 40:=by omega
    by_cases z2:e2 = 0 <;> simp [g1,g1',z1,g2,g2',z2]
   ·have g2' : (r.Cities.length:Int) > 40:=by omega
    simp [g1,g1',z1,g2,g2']
  ·simp [g1,g1',z1]
 ·have g1' : (r.Currencies.length:Int) > 8:=by omega
  simp [g1,g1']
theorem RS (r:aA) (f:wT r):kA r = some (HH (QB r) (O2 r)):=by
 have c1:=f.grp
 have c2:=f.frm
 have c3:=f.cit
 have l1:m3 r 0 = some (if kL (fun i=>decide (0 ≤ (el r.Groups i).Grade ∧ (el r.Groups i).Grade < 10)) r.Groups.length = true then .inl () else .inr ()):=by
  refine dB? (step:=fun w=>eO r w) (fun i=>(i:Int)) _ _ _ ?_ ?_
  ·intro i hi
   simp only [eO,i8 hi,if_true,cY _ _ hi,Option.bind_some,b9 (show i < 9223372036854775807 by omega),o5]
   repeat (any_goals split)
   all_goals try (simp only [decide_eq_true_eq,Bool.not_eq_true,Bool.not_eq_true',decide_eq_false_iff_not,bne_iff_ne,beq_iff_eq,ne_eq,Decidable.not_not] at *)
   all_goals first | rfl | (exfalso; omega) | (rw [if_pos (by omega)]) | (rw [if_neg (by omega)]) | omega
  ·simp only [eO,kH,if_false]
 have hcl:(r.Firms.map (·.Name)).length = r.Firms.length:=by simp
 have l2:m7 r 0 [] = some (NI () (NA (uO (r.Firms.map (·.Name)) (fun i=>LY r (el r.Firms i))) r.Firms.length)):=by
  refine uR (step:=fun w=>eP r w.1 w.2) (fun i=>((i:Int),(r.Firms.map (·.Name)).take i)) _ _ ?_ ?_
  ·intro i hi
   have hlen:((r.Firms.map (·.Name)).take i).length = i:=by simp; omega
   simp only [eP,i8 hi,if_true,cY _ _ hi,Option.bind_some,hlen,o5]
   rw [if_pos (by omega),← E0 (·.Name) r.Firms i hi,dG (by omega) (by omega),dG (by omega) (by omega)]
   refine Eq.trans ?_ (WB (r.Firms.map (·.Name)) (by omega) i (by omega) (fun i=>LY r (el r.Firms i)) (some (LY r (el r.Firms i))) rfl)
   congr 1
   funext e
   simp only [Option.bind_some]
   have:LY r (el r.Firms i) = (decide (0 ≤ (el r.Firms i).City ∧ (el r.Firms i).City ≤ (r.Cities.length:Int) - 1) && decide (0 ≤ (el r.Firms i).Group ∧ (el r.Firms i).Group ≤ (r.Groups.length:Int) - 1)):=by
    unfold LY
    rw [← Bool.decide_and,decide_eq_decide]; omega
   rw [this]
   generalize decide (0 ≤ (el r.Firms i).City ∧ (el r.Firms i).City ≤ (r.Cities.length:Int) - 1) = b1
   generalize decide (0 ≤ (el r.Firms i).Group ∧ (el r.Firms i).Group ≤ (r.Groups.length:Int) - 1) = b2
   cases b1 <;> cases b2 <;> rfl
  ·simp only [eP,kH,if_false]
 unfold kA
 rw [l1,l2]
 simp only [Option.bind_some,G7]
 unfold QB O2 AN
 rw [hcl]
 generalize kL _ _ = b
 generalize vJ (uO (r.Firms.map (·.Name)) (fun i=>LY r (el r.Firms i))) r.Firms.length = e2
 unfold HH
 by_cases g1:r.Groups.length ≤ 20
 ·have g1' : ¬ (r.Groups.length:Int) > 20:=by omega
  cases b with
  | false=>simp [g1,g1']
  | true =>
   by_cases g2:r.Firms.length ≤ 200
   ·have g2' : ¬ (r.Firms.length:Int) > 200:=by omega
    by_cases z2:e2 = 0 <;> simp [g1,g1',g2,g2',z2]
   ·have g2' : (r.Firms.length:Int) > 200:=by omega
    simp [g1,g1',g2,g2']
 ·have g1' : (r.Groups.length:Int) > 20:=by omega
  simp [g1,g1']
theorem PQ (r:aA) (f:wT r):iI r = some (O0 r):=by
 have c3:=f.ord
 have hcl:(r.Orders.map (·.Name)).length = r.Orders.length:=by simp
 have l2:mG r 0 [] = some (NI () (NA (uO (r.Orders.map (·.Name)) (fun i=>GC (el r.Orders i))) r.Orders.length)):=by
  refine uR (step:=fun w=>eF r w.1 w.2) (fun i=>((i:Int),(r.Orders.map (·.Name)).take i)) _ _ ?_ ?_
  ·intro i hi
   obtain ⟨q1,q2⟩:=f.orderL i hi
   have hlen:((r.Orders.map (·.Name)).take i).length = i:=by simp; omega
   simp only [eF,i8 hi,if_true,cY _ _ hi,Option.bind_some,hlen]
   rw [if_pos (by omega),← E0 (·.Name) r.Orders i hi]
   exact WB (r.Orders.map (·.Name)) (by omega) i (by omega) (fun i=>GC (el r.Orders i)) _ (QX (el r.Orders i) (by omega) (by omega))
  ·simp only [eF,kH,if_false]
 unfold iI
 rw [l2]
 simp only [Option.bind_some,G7]
 unfold O0 AN
 rw [hcl]
 generalize vJ (uO (r.Orders.map (·.Name)) (fun i=>GC (el r.Orders i))) r.Orders.length = e2
 by_cases g2:r.Orders.length ≤ 20
 ·have g2' : ¬ (r.Orders.length:Int) > 20:=by omega
  by_cases z2:e2 = 0 <;> simp [g2,g2',z2]
 ·have g2' : (r.Orders.length:Int) > 20:=by omega
  simp [g2,g2']
theorem PU (r:aA) (f:wT r) (w:aA.wf r):j8 r = some (BP r):=by
 unfold j8 jI iY jC BP
 simp only [P0 r f w,RS r f,PQ r f,N2 r f.usa f.cit,T7 r f.rat f.hal f.cur f.ord,Option.bind_some,beq_iff_eq]
 generalize OK r = e1
 generalize OE r = e2
 generalize QB r = e3
 generalize O2 r = e4
 generalize O0 r = e5
 generalize UF r = e6
 generalize GU r = e7
 unfold HH
 by_cases z1:e1 = 0
 ·by_cases z2:e2 = 0
  ·by_cases z3:e3 = 0
   ·by_cases z4:e4 = 0
    ·by_cases z5:e5 = 0
     ·by_cases z6:e6 = 0 <;> simp [z1,z2,z3,z4,z5,z6]
     ·simp [z1,z2,z3,z4,z5]
    ·simp [z1,z2,z3,z4]
   ·simp [z1,z2,z3]
  ·simp [z1,z2]
 ·simp [z1]
end Go.Proofs.Ytfhebiceipgdmaa
