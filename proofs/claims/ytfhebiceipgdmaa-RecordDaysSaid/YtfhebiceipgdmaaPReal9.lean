/- What realm.Check answers, exactly; and that the reference of layer 9 answers the same. -/
import Derived.Test.YtfhebiceipgdmaaPRealm
import Derived.Test.YtfhebiceipgdmaaVmG
set_option linter.unusedVariables false
set_option linter.unusedSimpArgs false
namespace Go.Proofs.Ytfhebiceipgdmaa
open Go.RowKit Vm
def WI (x:Int):Bool:=(decide (97 ≤ x) && decide (x ≤ 122)) || (decide (65 ≤ x) && decide (x ≤ 90))
def aCR (x:Int):Bool:=x == 95 || (decide (48 ≤ x) && decide (x ≤ 57))
def UD (s:ByteArray) (i:Nat):Bool:=WI (el (kQ s) i) || (i != 0 && aCR (el (kQ s) i))
def M1 (s:ByteArray):Bool:=decide (1 ≤ s.size) && (decide (s.size ≤ 20) && jP (fun i=>if UD s i = true then none else some false) true 0 s.size)
theorem KV (s:ByteArray):(kQ s).length = s.size:=by simp [kQ]
theorem NI (s:ByteArray) (i:Nat) (x:Int) (b:Bool):fM s i x b = some (if (b || (i != 0 && aCR x)) = true then .inl () else .inr ()):=by
 unfold fM aCR
 cases b with
 | true=>simp
 | false =>
  by_cases h0:i = 0
  ·simp [h0]
  ·by_cases h1:x = 95
   ·simp [h0,h1]
   ·by_cases h2:x < 48
    ·have:¬ 48 ≤ x:=by omega
     simp [h0,h1,h2,this]
    ·by_cases h3:x > 57
     ·have:¬ x ≤ 57:=by omega
      simp [h0,h1,h2,h3,this]
     ·have e1:48 ≤ x:=by omega
      have e2:x ≤ 57:=by omega
      simp [h0,h1,h2,h3,e1,e2]
theorem VR {α:Type} (p:Nat→Bool) (a b:α) (m:Nat):∀ k:Nat,Sum.elim (fun _=>some a) (fun _=>some b) (jP (fun i=>if p i = true then none else some (Sum.inr ())) (Sum.inl ():Unit ⊕ Unit) k m) = some (jP (fun i=>if p i = true then none else some b) a k m):=by
 induction m with
 | zero=>intro k; rfl
 | succ m ih =>
  intro k
  simp only [jP]
  by_cases h:p k = true
  ·simp only [if_pos h]; exact ih (k + 1)
  ·simp only [if_neg h]; rfl
theorem ZS (s:ByteArray):nJ s = some (M1 s):=by
 unfold nJ M1
 by_cases h0:s.size = 0
 ·have:s = ByteArray.empty:=ByteArray.size_eq_zero_iff.1 h0
  subst this
  simp
 ·have e0:(s.toList == ByteArray.empty.toList) = false:=by
   cases h:s.toList == ByteArray.empty.toList with
   | false=>rfl
   | true =>
    have h1:s.toList = ByteArray.empty.toList:=by simpa using h
    rw [ByteArray.toList_eq,ByteArray.toList_eq] at h1
    have h2:s.data.toList.length = 0:=by rw [h1]; rfl
    exact absurd (show s.size = 0 by simpa using h2) h0
  rw [e0]
  simp only [Bool.false_eq_true,if_false]
  by_cases h1:(s.size:Int) > 20
  ·have:¬ s.size ≤ 20:=by omega
   simp [h1,this]
  ·have e1:s.size ≤ 20:=by omega
   have e2:1 ≤ s.size:=by omega
   have hloop:oV s 0 = some (jP (fun i=>if UD s i = true then none else some (Sum.inr ())) (Sum.inl ()) 0 s.size):=by
    refine CQ (step:=fun w=>gG s w) (fun i=>(i:Int)) _ _ _ ?_ ?_
    ·intro i hi
     have hi' : i < (kQ s).length:=by rw [KV]; exact hi
     simp only [gG,mN hi',if_true,eQ _ _ hi',Option.bind_some,NI,b9 (show i < 9223372036854775807 by omega)]
     unfold UD WI
     generalize el (kQ s) i = x
     by_cases a1:97 ≤ x <;> by_cases a2:x ≤ 122 <;> by_cases a3:65 ≤ x <;> by_cases a4:x ≤ 90 <;> simp [a1,a2,a3,a4] <;> split <;> simp_all
    ·simp only [gG,← KV,oF,if_false]
   rw [hloop]
   simp only [Option.bind_some,VR]
   simp [e1,e2,h1]
theorem aJR (a b:ByteArray):(a.toList == b.toList) = decide (a = b):=by
 by_cases h:a = b
 ·subst h; simp
 ·rw [decide_eq_false h]
  cases e:a.toList == b.toList with
  | false=>rfl
  | true =>
   have e:a.toList = b.toList:=by simpa using e
   rw [ByteArray.toList_eq,ByteArray.toList_eq] at e
   exact absurd (ByteArray.ext (Array.ext' e)) h
def yJ (l:List ByteArray) (x:ByteArray) (n:Nat):Bool:=jP (fun j=>if el l j = x then some true else none) false 0 n
def tX (l:List ByteArray) (i:Nat):Int:=if M1 (el l i) = true then (if yJ l (el l i) i = true then 5 else 0) else 2
theorem aAV (l:List ByteArray) (x:ByteArray) (hl:l.length < 9223372036854775807):dZ l x = some (jP (fun j=>if el l j = x then some (j:Int) else none) (-1) 0 l.length):=by
 unfold dZ
 have hloop:fO l x 0 = some (jP (fun j=>if el l j = x then some (Sum.inr (j:Int)) else none) (Sum.inl ()) 0 l.length):=by
  refine CQ (step:=fun w=>cO l x w) (fun i=>(i:Int)) _ _ _ ?_ ?_
  ·intro i hi
   simp only [cO,mN hi,if_true,eQ _ _ hi,Option.bind_some,b9 (show i < 9223372036854775807 by omega),aJR,decide_eq_true_eq]
   by_cases h:x = el l i
   ·rw [if_pos h,if_pos h.symm]
   ·rw [if_neg h,if_neg (fun q=>h q.symm)]
  ·simp only [cO,oF,if_false]
 rw [hloop]
 simp only [Option.bind_some]
 have key:∀ (m k:Nat),Sum.elim (fun _=>some (-1:Int)) (fun z=>some z) (jP (fun j=>if el l j = x then some (Sum.inr (j:Int)) else none) (Sum.inl ():Unit ⊕ Int) k m) = some (jP (fun j=>if el l j = x then some (j:Int) else none) (-1) k m):=by
  intro m
  induction m with
  | zero=>intro k; rfl
  | succ m ih =>
   intro k
   simp only [jP]
   by_cases h:el l k = x
   ·simp only [if_pos h]; rfl
   ·simp only [if_neg h]; exact ih (k + 1)
 exact key _ 0
theorem ON (l:List ByteArray) (x:ByteArray) (hl:l.length < 9223372036854775807):dP l x = some (yJ l x l.length):=by
 unfold dP
 rw [aAV l x hl]
 simp only [Option.bind_some,Option.some.injEq]
 unfold yJ
 have key:∀ (m k:Nat),decide (jP (fun j=>if el l j = x then some (j:Int) else none) (-1) k m ≥ 0) = jP (fun j=>if el l j = x then some true else none) false k m:=by
  intro m
  induction m with
  | zero=>intro k; rfl
  | succ m ih =>
   intro k
   simp only [jP]
   by_cases h:el l k = x
   ·simp only [if_pos h]; simp
   ·simp only [if_neg h]; exact ih (k + 1)
 exact key _ 0
theorem aBC (l:List ByteArray) (i:Nat) (hi:i < l.length) (hl:l.length < 9223372036854775807):iV l i = some (tX l i):=by
 unfold iV tX
 rw [eQ l i hi]
 simp only [Option.bind_some,ZS]
 cases M1 (el l i) with
 | false=>rfl
 | true =>
  have hsl:(dE l 0 (i:Int)).length = i:=by simp [dE]; omega
  rw [if_pos (show fX l.length 0 i from ⟨Int.le_refl _,by omega,by omega⟩),ON _ _ (by omega),hsl]
  have:yJ (dE l 0 (i:Int)) (el l i) i = yJ l (el l i) i:=by
   unfold yJ
   refine E7 _ _ (fun j h1 h2=>?_) rfl
   have:el (dE l 0 (i:Int)) j = el l j:=by
    rw [vK _ _ (by omega),vK _ _ (by omega)]
    simp [dE]
   rw [this]
  rw [this]
  simp only [Option.bind_some,Bool.not_true,Bool.false_eq_true,if_false,if_true]
  cases yJ l (el l i) i <;> rfl
def H7 (l:List Int) (lo hi:Int):Bool:=sQ (fun i=>decide (lo ≤ el l i ∧ el l i ≤ hi ∧ (0 < i→el l (i - 1) < el l i))) l.length
theorem AE (l:List Int) (lo hi:Int) (hl:l.length < 9223372036854775807):gN l lo hi = some (H7 l lo hi):=by
 unfold gN H7
 have hloop:o6 l lo hi 0 = some (if sQ (fun i=>decide (lo ≤ el l i ∧ el l i ≤ hi ∧ (0 < i→el l (i - 1) < el l i))) l.length = true then .inl () else .inr ()):=by
  refine fB? (step:=fun w=>gI l lo hi w) (fun i=>(i:Int)) l.length _ _ ?_ ?_
  ·intro i hi'
   simp only [gI,mN hi',if_true,eQ _ _ hi',Option.bind_some,b9 (show i < 9223372036854775807 by omega)]
   by_cases h3:0 < i
   ·have e1:IntKind.wrap .i64 ((i:Int) - 1) = ((i - 1:Nat):Int):=by rw [nQ (by omega) (by omega)]; omega
    rw [e1,eQ l (i - 1) (by omega)]
    simp only [Option.bind_some,decide_eq_true_eq]
    repeat (any_goals split)
    all_goals try (simp only [decide_eq_true_eq,Bool.not_eq_true,Bool.not_eq_true',decide_eq_false_iff_not,bne_iff_ne,beq_iff_eq,ne_eq,Decidable.not_not] at *)
    all_goals first | rfl | (exfalso; omega) | (rw [if_pos (by omega)]) | (rw [if_neg (by omega)]) | omega
   ·simp only [decide_eq_true_eq]
    repeat (any_goals split)
    all_goals try (simp only [decide_eq_true_eq,Bool.not_eq_true,Bool.not_eq_true',decide_eq_false_iff_not,bne_iff_ne,beq_iff_eq,ne_eq,Decidable.not_not] at *)
    all_goals first | rfl | (exfalso; omega) | (rw [if_pos (by omega)]) | (rw [if_neg (by omega)]) | omega
  ·simp only [gI,oF,if_false]
 rw [hloop]
 generalize sQ _ _ = b
 cases b <;> rfl
def W8 (r:aA) (c:bJ):Bool :=
 sQ (fun i=>decide (1 ≤ (el c.Feasts i).tmod 100 ∧ (el c.Feasts i).tmod 100 ≤ 31)) c.Feasts.length && (decide (c.Feasts.length ≤ 60) && (decide (c.Shut.length ≤ 200) && (decide (0 ≤ c.Order ∧ c.Order < r.Orders.length) && (decide (0 ≤ c.Currency ∧ c.Currency < r.Currencies.length) && (H7 c.Rest 0 6 && (H7 c.Feasts 101 1231 && H7 c.Shut 0 100000))))))
theorem aGa (r:aA) (c:bJ) (h1:c.Feasts.length < 9223372036854775807) (h2:c.Rest.length < 9223372036854775807) (h3:c.Shut.length < 9223372036854775807):qV r c = some (W8 r c):=by
 unfold qV W8
 have hloop:rH r c 0 = some (if sQ (fun i=>decide (1 ≤ (el c.Feasts i).tmod 100 ∧ (el c.Feasts i).tmod 100 ≤ 31)) c.Feasts.length = true then .inl () else .inr ()):=by
  refine fB? (step:=fun w=>iP r c w) (fun i=>(i:Int)) _ _ _ ?_ ?_
  ·intro i hi'
   simp only [iP,mN hi',if_true,eQ _ _ hi',Option.bind_some,b9 (show i < 9223372036854775807 by omega),decide_eq_true_eq]
   repeat (any_goals split)
   all_goals try (simp only [decide_eq_true_eq,Bool.not_eq_true,Bool.not_eq_true',decide_eq_false_iff_not,bne_iff_ne,beq_iff_eq,ne_eq,Decidable.not_not] at *)
   all_goals first | rfl | (exfalso; omega) | (rw [if_pos (by omega)]) | (rw [if_neg (by omega)]) | omega
  ·simp only [iP,oF,if_false]
 rw [hloop]
 simp only [JM,AE _ _ _ h1,AE _ _ _ h2,AE _ _ _ h3,Option.bind_some,decide_eq_true_eq]
 generalize sQ _ _ = b
 cases b with
 | false=>rfl
 | true =>
  simp only [if_true,Sum.elim_inl,Bool.true_and]
  by_cases g1:(c.Feasts.length:Int) > 60
  ·rw [if_pos g1,decide_eq_false (by omega)]; rfl
  rw [if_neg g1,decide_eq_true (show c.Feasts.length ≤ 60 by omega)]
  by_cases g2:(c.Shut.length:Int) > 200
  ·rw [if_pos g2,decide_eq_false (by omega)]; rfl
  rw [if_neg g2,decide_eq_true (show c.Shut.length ≤ 200 by omega)]
  generalize decide (0 ≤ c.Order ∧ c.Order < r.Orders.length) = b1
  generalize decide (0 ≤ c.Currency ∧ c.Currency < r.Currencies.length) = b2
  generalize H7 c.Rest 0 6 = b3
  generalize H7 c.Feasts 101 1231 = b4
  generalize H7 c.Shut 0 100000 = b5
  cases b1 <;> cases b2 <;> cases b3 <;> cases b4 <;> rfl
def SE (o:bC):Bool:=sQ (fun i=>decide (0 ≤ (el o.Choices i).By ∧ (el o.Choices i).By < 5)) o.Choices.length && (H7 (o.Choices.map (·.Ask)) 0 21 && H7 (o.Rules.map (·.Ask)) 0 21)
theorem aDu {α β:Type} [Inhabited α] [Inhabited β] (f:α→β) (l:List α) (i:Nat) (h:i < l.length):el (l.map f) i = f (el l i):=by
 rw [vK _ _ (by simpa using h),vK _ _ h]; simp
theorem E3 {α:Type} [Inhabited α] (l:List α) (i:Nat) (h:i < l.length):l.take i ++ [el l i] = l.take (i + 1):=by
 rw [vK l i h,List.take_append_getElem h]
theorem aCT (o:bC) (h1:o.Choices.length < 6000000000000) (h2:o.Rules.length < 6000000000000):o7 o = some (SE o):=by
 unfold o7 SE
 have l1:pW o 0 [] = some (if sQ (fun i=>decide (0 ≤ (el o.Choices i).By ∧ (el o.Choices i).By < 5)) o.Choices.length = true then .inl (o.Choices.map (·.Ask)) else .inr ()):=by
  have:=fB? (step:=fun w=>h9 o w.1 w.2) (fun i=>((i:Int),(o.Choices.take i).map (·.Ask))) o.Choices.length (fun i=>decide (0 ≤ (el o.Choices i).By ∧ (el o.Choices i).By < 5)) (o.Choices.map (·.Ask)) ?_ ?_
  ·exact this
  ·intro i hi
   have hlen:((o.Choices.take i).map (·.Ask)).length = i:=by simp; omega
   simp only [h9,mN hi,if_true,eQ _ _ hi,Option.bind_some,b9 (show i < 9223372036854775807 by omega),JM,hlen]
   rw [if_pos (by omega)]
   have:(o.Choices.take i).map (·.Ask) ++ [(el o.Choices i).Ask] = (o.Choices.take (i + 1)).map (·.Ask):=by rw [← E3 _ _ hi]; simp
   rw [this]
   generalize decide (0 ≤ (el o.Choices i).By ∧ (el o.Choices i).By < 5) = b
   cases b <;> rfl
  ·simp only [h9,oF,if_false]
   simp
 have l2:∀ z,qF o z 0 [] = some (o.Rules.map (·.Ask)):=by
  intro z
  have:=fB (step:=fun w=>h8 o z w.1 w.2) (fun i=>((i:Int),(o.Rules.take i).map (·.Ask))) o.Rules.length (o.Rules.map (·.Ask)) ?_ ?_
  ·exact this
  ·intro i hi
   have hlen:((o.Rules.take i).map (·.Ask)).length = i:=by simp; omega
   simp only [h8,mN hi,if_true,eQ _ _ hi,Option.bind_some,b9 (show i < 9223372036854775807 by omega),hlen]
   rw [if_pos (by omega)]
   have:(o.Rules.take i).map (·.Ask) ++ [(el o.Rules i).Ask] = (o.Rules.take (i + 1)).map (·.Ask):=by rw [← E3 _ _ hi]; simp
   rw [this]
  ·simp only [h8,oF,if_false]
   simp
 rw [l1]
 generalize sQ _ _ = b
 cases b with
 | false=>rfl
 | true =>
  simp only [if_true,Option.bind_some,Sum.elim_inl,l2]
  rw [AE _ _ _ (by simp; omega),AE _ _ _ (by simp; omega)]
  generalize H7 (o.Choices.map (·.Ask)) 0 21 = b1
  generalize H7 (o.Rules.map (·.Ask)) 0 21 = b2
  cases b1 <;> cases b2 <;> rfl
def OI (l:List ByteArray) (F:Nat→Bool) (i:Nat):Int:=if tX l i = 0 then (if F i = true then 0 else 1) else tX l i
def CI (l:List ByteArray) (most:Nat) (F:Nat→Bool):Int:=if l.length ≤ most then B0 (OI l F) l.length else 6
theorem RX {S:Type} {step:S→Option (S ⊕ (Unit ⊕ Int))} (st:Nat→S) (n:Nat) (g:Nat→Int)
  (h:∀ i,i < n→step (st i) = some (GS (st (i + 1)) (g i))) (he:step (st n) = some (.inr (.inl ()))):(fY step (st 0)).bind (fun r=>Sum.elim (fun _=>some (0:Int)) (fun z=>some z) r) = some (B0 g n):=by
 rw [qL st n (fun i=>if g i = 0 then none else some (g i)) () (fun i hi=>by rw [h i hi]; unfold GS; by_cases e:g i = 0 <;> simp [e]) he]
 simp only [Option.bind_some,KT ()]
 rfl
theorem IY (l:List ByteArray) (hl:l.length < 9223372036854775807) (most:Nat) (step:Int→Option (Int ⊕ (Unit ⊕ Int))) (fine:Int→Option Bool)
  (hs:∀ p,step p = if decide (p < (l.length:Int)) = true then (iV l p).bind fun (r2:Int)=>if (r2 != 0) = true then some (.inr (.inr (r2))) else (fine p).bind fun (r3:Bool)=>if (!(r3)) = true then some (.inr (.inr (1))) else some (.inl (IntKind.wrap .i64 (p + 1))) else some (.inr (.inl ())))
  (F:Nat→Bool) (hf:∀ i,i < l.length→fine (i:Int) = some (F i)) :
  (if decide ((l.length:Int) > (most:Int)) = true then some 6 else (fY step 0).bind fun r5=>Sum.elim (fun z6=>some (0:Int)) (fun z7=>some z7) r5) = some (CI l most F):=by
 unfold CI
 by_cases g:l.length ≤ most
 ·rw [if_pos g,decide_eq_false (by omega)]
  simp only [Bool.false_eq_true,if_false]
  refine RX (step:=step) (fun i=>(i:Int)) l.length _ ?_ ?_
  ·intro i hi
   rw [hs]
   simp only [mN hi,if_true,aBC l i hi hl,hf i hi,Option.bind_some,b9 (show i < 9223372036854775807 by omega),OI]
   generalize tX l i = e
   generalize F i = b
   by_cases h0:e = 0
   ·cases b <;> simp [h0,GS]
   ·simp [h0,GS]
  ·rw [hs]; simp only [oF,if_false]
 ·rw [if_neg g,decide_eq_true (by omega)]
  rfl
def usB (r:aA) (i k:Nat):Bool:=decide ((el r.Usances k).From = (el r.Usances i).From ∧ (el r.Usances k).To = (el r.Usances i).To)
def aHd (r:aA) (i:Nat):Int:=if (0 ≤ (el r.Usances i).From ∧ (el r.Usances i).From < r.Cities.length) ∧ (0 ≤ (el r.Usances i).To ∧ (el r.Usances i).To < r.Cities.length) ∧ 1 ≤ (el r.Usances i).Days ∧ (el r.Usances i).Days ≤ 20000 then (if sQ (fun k=>!usB r i k) i = true then 0 else 5) else 1
def aCm (r:aA):Int:=if r.Usances.length ≤ 100 then B0 (aHd r) r.Usances.length else 6
theorem VF (r:aA) (h:r.Usances.length < 100000000000000):mD r = some (aCm r):=by
 unfold mD aCm
 by_cases g:r.Usances.length ≤ 100
 ·rw [if_pos g,decide_eq_false (by omega)]
  simp only [Bool.false_eq_true,if_false]
  refine RX (step:=fun w=>fR r w) (fun i=>(i:Int)) r.Usances.length _ ?_ ?_
  ·intro i hi
   have hin:n9 r i (el r.Usances i) 0 = some (if sQ (fun k=>!usB r i k) i = true then .inl () else .inr ()):=by
    have hsl:(dE r.Usances 0 (i:Int)).length = i:=by simp [dE]; omega
    refine fB? (step:=fun w=>fQ r i (el r.Usances i) w) (fun k=>(k:Int)) i _ _ ?_ ?_
    ·intro k hk
     have e1:el (dE r.Usances 0 (i:Int)) k = el r.Usances k:=by rw [vK _ _ (by omega),vK _ _ (by omega)]; simp [dE]
     simp only [fQ,hsl,mN hk,if_true,eQ (dE r.Usances 0 (i:Int)) k (by omega),e1,Option.bind_some,b9 (show k < 9223372036854775807 by omega),beq_iff_eq,usB]
     by_cases a1:(el r.Usances k).From = (el r.Usances i).From <;> by_cases a2:(el r.Usances k).To = (el r.Usances i).To <;> simp [a1,a2]
    ·simp only [fQ,hsl,oF,if_false]
   simp only [fR,mN hi,if_true,eQ _ _ hi,Option.bind_some,b9 (show i < 9223372036854775807 by omega),JM,decide_eq_true_eq,hin,aHd]
   rw [if_pos (show fX r.Usances.length 0 (i:Int) from ⟨Int.le_refl _,by omega,by omega⟩)]
   generalize sQ _ _ = b
   generalize el r.Usances i = u
   by_cases g1:0 ≤ u.From ∧ u.From < r.Cities.length
   ·by_cases g2:0 ≤ u.To ∧ u.To < r.Cities.length
    ·by_cases g3:u.Days < 1
     ·rw [if_neg (show ¬ (_ ∧ _ ∧ _ ∧ _) from fun q=>absurd q.2.2.1 (by omega))]
      simp [g1,g2,g3,GS]
     by_cases g4:u.Days > 20000
     ·rw [if_neg (show ¬ (_ ∧ _ ∧ _ ∧ _) from fun q=>absurd q.2.2.2 (by omega))]
      simp [g1,g2,g3,g4,GS]
     ·rw [if_pos (show _ ∧ _ ∧ _ ∧ _ from ⟨g1,g2,by omega,by omega⟩)]
      cases b <;> simp [g1,g2,g3,g4,GS]
    ·rw [if_neg (show ¬ (_ ∧ _ ∧ _ ∧ _) from fun q=>g2 q.2.1)]
     simp [g1,g2,GS]
   ·rw [if_neg (show ¬ (_ ∧ _ ∧ _ ∧ _) from fun q=>g1 q.1)]
    simp [g1,GS]
  ·simp only [fR,oF,if_false]
 ·rw [if_neg g,decide_eq_true (by omega)]
  rfl
def V5 (r:aA) (x:bV):Bool:=decide ((0 ≤ x.From ∧ x.From < r.Currencies.length) ∧ (0 ≤ x.To ∧ x.To < r.Currencies.length) ∧ x.From ≠ x.To ∧ (1 ≤ x.Num ∧ x.Num ≤ 1073741824) ∧ (1 ≤ x.Den ∧ x.Den ≤ 1073741824) ∧ 0 ≤ x.Since ∧ x.Since ≤ 100000)
def WP (r:aA) (x:bZ):Bool:=decide ((0 ≤ x.Order ∧ x.Order < r.Orders.length) ∧ 0 ≤ x.From ∧ x.From ≤ x.To ∧ x.To ≤ 100000)
def J2 (r:aA):Int:=if r.Rates.length ≤ 100 then (if sQ (fun i=>V5 r (el r.Rates i)) r.Rates.length = true then (if r.Halts.length ≤ 20 then (if sQ (fun i=>WP r (el r.Halts i)) r.Halts.length = true then 0 else 1) else 6) else 1) else 6
theorem MK (n:Int) (h:pE n):(0 ≤ IntKind.wrap .i64 (n - 1) ∧ IntKind.wrap .i64 (n - 1) < 1073741824) ↔ (1 ≤ n ∧ n ≤ 1073741824):=by
 unfold pE at h
 by_cases e:n = -9223372036854775808
 ·subst e
  have:IntKind.wrap .i64 (-9223372036854775808 - 1) = 9223372036854775807:=by decide
  rw [this]; omega
 ·rw [nQ (by omega) (by omega)]; omega
theorem aEv (r:aA) (h1:r.Rates.length < 100000000000000) (h2:r.Halts.length < 100000000000000) (hw:Wl bV.wf r.Rates):rA r = some (J2 r):=by
 unfold rA J2
 have l1:rL r 0 = some (if sQ (fun i=>V5 r (el r.Rates i)) r.Rates.length = true then .inl () else .inr ()):=by
  refine fB? (step:=fun w=>iN r w) (fun i=>(i:Int)) _ _ _ ?_ ?_
  ·intro i hi
   have hx:=hw.2 _ (GR r.Rates i hi)
   simp only [iN,mN hi,if_true,eQ _ _ hi,Option.bind_some,b9 (show i < 9223372036854775807 by omega),JM,V5]
   generalize el r.Rates i = x at hx
   have a1:=MK x.Num hx.2.2.1
   have a2:=MK x.Den hx.2.2.2.1
   simp only [a1,a2,Bool.not_eq_true',decide_eq_false_iff_not,beq_iff_eq,decide_eq_true_eq]
   repeat (any_goals split)
   all_goals try (simp only [decide_eq_true_eq,Bool.not_eq_true,Bool.not_eq_true',decide_eq_false_iff_not,bne_iff_ne,beq_iff_eq,ne_eq,Decidable.not_not] at *)
   all_goals first | rfl | (exfalso; omega) | (rw [if_pos (by omega)]) | (rw [if_neg (by omega)]) | omega
  ·simp only [iN,oF,if_false]
 have l2:sC r 0 = some (if sQ (fun i=>WP r (el r.Halts i)) r.Halts.length = true then .inl () else .inr ()):=by
  refine fB? (step:=fun w=>iM r w) (fun i=>(i:Int)) _ _ _ ?_ ?_
  ·intro i hi
   simp only [iM,mN hi,if_true,eQ _ _ hi,Option.bind_some,b9 (show i < 9223372036854775807 by omega),JM,WP]
   generalize el r.Halts i = x
   simp only [Bool.not_eq_true',decide_eq_false_iff_not,beq_iff_eq,decide_eq_true_eq]
   repeat (any_goals split)
   all_goals try (simp only [decide_eq_true_eq,Bool.not_eq_true,Bool.not_eq_true',decide_eq_false_iff_not,bne_iff_ne,beq_iff_eq,ne_eq,Decidable.not_not] at *)
   all_goals first | rfl | (exfalso; omega) | (rw [if_pos (by omega)]) | (rw [if_neg (by omega)]) | omega
  ·simp only [iM,oF,if_false]
 rw [l1,l2]
 generalize sQ (fun i=>V5 r (el r.Rates i)) r.Rates.length = b1
 generalize sQ (fun i=>WP r (el r.Halts i)) r.Halts.length = b2
 by_cases g1:r.Rates.length ≤ 100
 ·rw [decide_eq_false (show ¬ (r.Rates.length:Int) > 100 by omega),if_pos g1]
  by_cases g2:r.Halts.length ≤ 20
  ·rw [decide_eq_false (show ¬ (r.Halts.length:Int) > 20 by omega),if_pos g2]
   cases b1 <;> cases b2 <;> rfl
  ·rw [decide_eq_true (show (r.Halts.length:Int) > 20 by omega),if_neg g2]
   cases b1 <;> cases b2 <;> rfl
 ·rw [decide_eq_true (show (r.Rates.length:Int) > 100 by omega),if_neg g1]
  rfl
def YC (a b:Int):Int:=if a = 0 then b else a
theorem aA5 {a b:Int}:YC a b = 0 ↔ a = 0 ∧ b = 0:=by
 unfold YC
 by_cases h:a = 0 <;> simp [h]
def aHt (r:aA) (x:bU):Bool:=decide ((0 ≤ x.City ∧ x.City < r.Cities.length) ∧ 0 ≤ x.Group ∧ x.Group < r.Groups.length)
def aBb (r:aA):Int:=if r.Groups.length ≤ 20 then (if sQ (fun i=>decide (0 ≤ (el r.Groups i).Grade ∧ (el r.Groups i).Grade < 10)) r.Groups.length = true then 0 else 1) else 6
def V9 (r:aA):Int:=CI r.Currencies 8 (fun _=>true)
def VS (r:aA):Int:=CI (r.Cities.map (·.Name)) 40 (fun i=>W8 r (el r.Cities i))
def VY (r:aA):Int:=CI (r.Firms.map (·.Name)) 200 (fun i=>aHt r (el r.Firms i))
def WQ (r:aA):Int:=CI (r.Orders.map (·.Name)) 20 (fun i=>SE (el r.Orders i))
def OO (r:aA):Int:=YC (V9 r) (YC (VS r) (YC (aBb r) (YC (VY r) (YC (WQ r) (YC (aCm r) (J2 r))))))
theorem ML (r:aA) (f:H9 r) (w:aA.wf r):o0 r = some (OO r):=by
 obtain ⟨w1,w2,w3,w4,w5,w6,w7,w8⟩:=w
 have hcl:(r.Cities.map (·.Name)).length = r.Cities.length:=by simp
 have hfl:(r.Firms.map (·.Name)).length = r.Firms.length:=by simp
 have hol:(r.Orders.map (·.Name)).length = r.Orders.length:=by simp
 have a1:mJ r.Currencies 8 = some (V9 r):=by
  unfold mJ
  exact IY r.Currencies (by have:=f.cur; omega) 8 (fun w=>jS r.Currencies w) oJ (fun p=>rfl) (fun _=>true) (fun i hi=>rfl)
 have a2:lV (r.Cities.map (·.Name)) 40 r = some (VS r):=by
  unfold lV
  refine IY (r.Cities.map (·.Name)) (by have:=f.cit; omega) 40 (fun w=>jW (r.Cities.map (·.Name)) r w) (fun p=>jM p r) (fun p=>rfl) _ (fun i hi=>?_)
  rw [hcl] at hi
  obtain ⟨q1,q2,q3⟩:=f.cityL i hi
  simp only [jM,eQ _ _ hi,Option.bind_some,aGa r (el r.Cities i) (by omega) (by omega) (by omega)]
 have a3:mG (r.Firms.map (·.Name)) 200 r = some (VY r):=by
  unfold mG
  refine IY (r.Firms.map (·.Name)) (by have:=f.frm; omega) 200 (fun w=>jX (r.Firms.map (·.Name)) r w) (fun p=>jK p r) (fun p=>rfl) _ (fun i hi=>?_)
  rw [hfl] at hi
  simp only [jK,eQ _ _ hi,Option.bind_some,JM,decide_eq_true_eq,aHt]
  by_cases g:0 ≤ (el r.Firms i).City ∧ (el r.Firms i).City < r.Cities.length <;> simp [g]
 have a4:mA (r.Orders.map (·.Name)) 20 r = some (WQ r):=by
  unfold mA
  refine IY (r.Orders.map (·.Name)) (by have:=f.ord; omega) 20 (fun w=>jV (r.Orders.map (·.Name)) r w) (fun p=>jE p r) (fun p=>rfl) _ (fun i hi=>?_)
  rw [hol] at hi
  obtain ⟨q1,q2⟩:=f.orderL i hi
  simp only [jE,eQ _ _ hi,Option.bind_some,aCT (el r.Orders i) (by omega) (by omega)]
 have a5:∀ z,qD r z 0 = some (if sQ (fun i=>decide (0 ≤ (el r.Groups i).Grade ∧ (el r.Groups i).Grade < 10)) r.Groups.length = true then .inl () else .inr ()):=by
  intro z
  refine fB? (step:=fun w=>iD r z w) (fun i=>(i:Int)) _ _ _ ?_ ?_
  ·intro i hi
   have:=f.grp
   simp only [iD,mN hi,if_true,eQ _ _ hi,Option.bind_some,b9 (show i < 9223372036854775807 by omega),JM]
   generalize decide (0 ≤ (el r.Groups i).Grade ∧ (el r.Groups i).Grade < 10) = b
   cases b <;> rfl
  ·simp only [iD,oF,if_false]
 unfold o0 OO
 simp only [aBn r f,Option.bind_some,a1,a2,a3,a4,a5,VF r f.usa,aEv r f.rat f.hal w7]
 generalize V9 r = e1
 generalize VS r = e2
 generalize VY r = e3
 generalize WQ r = e4
 generalize aCm r = e5
 generalize J2 r = e6
 unfold aBb
 generalize sQ _ _ = b
 unfold YC
 by_cases z1:e1 = 0
 ·by_cases z2:e2 = 0
  ·by_cases gg:r.Groups.length ≤ 20
   ·have gg' : ¬ (r.Groups.length:Int) > 20:=by omega
    cases b with
    | false=>simp [z1,z2,gg,gg']
    | true =>
     by_cases z3:e3 = 0
     ·by_cases z4:e4 = 0
      ·by_cases z5:e5 = 0 <;> simp [z1,z2,gg,gg',z3,z4,z5]
      ·simp [z1,z2,gg,gg',z3,z4]
     ·simp [z1,z2,gg,gg',z3]
   ·have gg' : (r.Groups.length:Int) > 20:=by omega
    simp [z1,z2,gg,gg']
  ·simp [z1,z2]
 ·simp [z1]
end Go.Proofs.Ytfhebiceipgdmaa
