/- What realm.Check answers, exactly; and that the reference of layer 9 answers the same. -/
import Derived.Test.YtfhebiceipgdmaaPRealm
import Derived.Test.YtfhebiceipgdmaaVmG
set_option linter.unusedVariables false
set_option linter.unusedSimpArgs false
namespace Go.Proofs.Ytfhebiceipgdmaa
open Go.RowKit Vm
def WD (x:Int):Bool:=(decide (97 ≤ x) && decide (x ≤ 122)) || (decide (65 ≤ x) && decide (x ≤ 90))
def aAW (x:Int):Bool:=x == 95 || (decide (48 ≤ x) && decide (x ≤ 57))
def UN (s:ByteArray) (i:Nat):Bool:=WD (el (kQ s) i) || (i != 0 && aAW (el (kQ s) i))
def NF (s:ByteArray):Bool:=decide (1 ≤ s.size) && (decide (s.size ≤ 20) && jQ (fun i=>if UN s i = true then none else some false) true 0 s.size)
theorem JF (s:ByteArray):(kQ s).length = s.size:=by simp [kQ]
theorem NM (s:ByteArray) (i:Nat) (x:Int) (b:Bool):fO s i x b = some (if (b || (i != 0 && aAW x)) = true then .inl () else .inr ()):=by
 unfold fO aAW
 cases b with
 | true=>simp
 | false =>
  by_cases h0:i = 0
  ·simp [h0]
  ·by_cases h1:x = 95
   ·simp [h0,h1]
   ·by_cases h2:x < 48
    ·have:¬ 48 ≤ x:=by omega
     simp [h0,h1,h2,this]
    ·by_cases h3:x > 57
     ·have:¬ x ≤ 57:=by omega
      simp [h0,h1,h2,h3,this]
     ·have e1:48 ≤ x:=by omega
      have e2:x ≤ 57:=by omega
      simp [h0,h1,h2,h3,e1,e2]
theorem SE {α:Type} (p:Nat→Bool) (a b:α) (m:Nat):∀ k:Nat,Sum.elim (fun _=>some a) (fun _=>some b) (jQ (fun i=>if p i = true then none else some (Sum.inr ())) (Sum.inl ():Unit ⊕ Unit) k m) = some (jQ (fun i=>if p i = true then none else some b) a k m):=by
 induction m with
 | zero=>intro k; rfl
 | succ m ih =>
  intro k
  simp only [jQ]
  by_cases h:p k = true
  ·simp only [if_pos h]; exact ih (k + 1)
  ·simp only [if_neg h]; rfl
theorem ZG (s:ByteArray):nN s = some (NF s):=by
 unfold nN NF
 by_cases h0:s.size = 0
 ·have:s = ByteArray.empty:=ByteArray.size_eq_zero_iff.1 h0
  subst this
  simp
 ·have e0:(s.toList == ByteArray.empty.toList) = false:=by
   cases h:s.toList == ByteArray.empty.toList with
   | false=>rfl
   | true =>
    have h1:s.toList = ByteArray.empty.toList:=by simpa using h
    rw [ByteArray.toList_eq,ByteArray.toList_eq] at h1
    have h2:s.data.toList.length = 0:=by rw [h1]; rfl
    exact absurd (show s.size = 0 by simpa using h2) h0
  rw [e0]
  simp only [Bool.false_eq_true,if_false]
  by_cases h1:(s.size:Int) > 20
  ·have:¬ s.size ≤ 20:=by omega
   simp [h1,this]
  ·have e1:s.size ≤ 20:=by omega
   have e2:1 ≤ s.size:=by omega
   have hloop:o8 s 0 = some (jQ (fun i=>if UN s i = true then none else some (Sum.inr ())) (Sum.inl ()) 0 s.size):=by
    refine CP (step:=fun w=>gH s w) (fun i=>(i:Int)) _ _ _ ?_ ?_
    ·intro i hi
     have hi' : i < (kQ s).length:=by rw [JF]; exact hi
     simp only [gH,mN hi',if_true,eQ _ _ hi',Option.bind_some,NM,b9 (show i < 9223372036854775807 by omega)]
     unfold UN WD
     generalize el (kQ s) i = x
     by_cases a1:97 ≤ x <;> by_cases a2:x ≤ 122 <;> by_cases a3:65 ≤ x <;> by_cases a4:x ≤ 90 <;> simp [a1,a2,a3,a4] <;> split <;> simp_all
    ·simp only [gH,← JF,oF,if_false]
   rw [hloop]
   simp only [Option.bind_some,SE]
   simp [e1,e2,h1]
theorem aJD (a b:ByteArray):(a.toList == b.toList) = decide (a = b):=by
 by_cases h:a = b
 ·subst h; simp
 ·rw [decide_eq_false h]
  cases e:a.toList == b.toList with
  | false=>rfl
  | true =>
   have e:a.toList = b.toList:=by simpa using e
   rw [ByteArray.toList_eq,ByteArray.toList_eq] at e
   exact absurd (ByteArray.ext (Array.ext' e)) h
def yC (l:List ByteArray) (x:ByteArray) (n:Nat):Bool:=jQ (fun j=>if el l j = x then some true else none) false 0 n
def tV (l:List ByteArray) (i:Nat):Int:=if NF (el l i) = true then (if yC l (el l i) i = true then 5 else 0) else 2
theorem aDU (l:List ByteArray) (x:ByteArray) (hl:l.length < 9223372036854775807):eB l x = some (jQ (fun j=>if el l j = x then some (j:Int) else none) (-1) 0 l.length):=by
 unfold eB
 have hloop:fN l x 0 = some (jQ (fun j=>if el l j = x then some (Sum.inr (j:Int)) else none) (Sum.inl ()) 0 l.length):=by
  refine CP (step:=fun w=>cP l x w) (fun i=>(i:Int)) _ _ _ ?_ ?_
  ·intro i hi
   simp only [cP,mN hi,if_true,eQ _ _ hi,Option.bind_some,b9 (show i < 9223372036854775807 by omega),aJD,decide_eq_true_eq]
   by_cases h:x = el l i
   ·rw [if_pos h,if_pos h.symm]
   ·rw [if_neg h,if_neg (fun q=>h q.symm)]
  ·simp only [cP,oF,if_false]
 rw [hloop]
 simp only [Option.bind_some]
 have key:∀ (m k:Nat),Sum.elim (fun _=>some (-1:Int)) (fun z=>some z) (jQ (fun j=>if el l j = x then some (Sum.inr (j:Int)) else none) (Sum.inl ():Unit ⊕ Int) k m) = some (jQ (fun j=>if el l j = x then some (j:Int) else none) (-1) k m):=by
  intro m
  induction m with
  | zero=>intro k; rfl
  | succ m ih =>
   intro k
   simp only [jQ]
   by_cases h:el l k = x
   ·simp only [if_pos h]; rfl
   ·simp only [if_neg h]; exact ih (k + 1)
 exact key _ 0
theorem N8 (l:List ByteArray) (x:ByteArray) (hl:l.length < 9223372036854775807):dO l x = some (yC l x l.length):=by
 unfold dO
 rw [aDU l x hl]
 simp only [Option.bind_some,Option.some.injEq]
 unfold yC
 have key:∀ (m k:Nat),decide (jQ (fun j=>if el l j = x then some (j:Int) else none) (-1) k m ≥ 0) = jQ (fun j=>if el l j = x then some true else none) false k m:=by
  intro m
  induction m with
  | zero=>intro k; rfl
  | succ m ih =>
   intro k
   simp only [jQ]
   by_cases h:el l k = x
   ·simp only [if_pos h]; simp
   ·simp only [if_neg h]; exact ih (k + 1)
 exact key _ 0
theorem aDu (l:List ByteArray) (i:Nat) (hi:i < l.length) (hl:l.length < 9223372036854775807):iV l i = some (tV l i):=by
 unfold iV tV
 rw [eQ l i hi]
 simp only [Option.bind_some,ZG]
 cases NF (el l i) with
 | false=>rfl
 | true =>
  have hsl:(dB l 0 (i:Int)).length = i:=by simp [dB]; omega
  rw [if_pos (show fW l.length 0 i from ⟨Int.le_refl _,by omega,by omega⟩),N8 _ _ (by omega),hsl]
  have:yC (dB l 0 (i:Int)) (el l i) i = yC l (el l i) i:=by
   unfold yC
   refine FE _ _ (fun j h1 h2=>?_) rfl
   have:el (dB l 0 (i:Int)) j = el l j:=by
    rw [vL _ _ (by omega),vL _ _ (by omega)]
    simp [dB]
   rw [this]
  rw [this]
  simp only [Option.bind_some,Bool.not_true,Bool.false_eq_true,if_false,if_true]
  cases yC l (el l i) i <;> rfl
def IP (l:List Int) (lo hi:Int):Bool:=sP (fun i=>decide (lo ≤ el l i ∧ el l i ≤ hi ∧ (0 < i→el l (i - 1) < el l i))) l.length
theorem AG (l:List Int) (lo hi:Int) (hl:l.length < 9223372036854775807):gN l lo hi = some (IP l lo hi):=by
 unfold gN IP
 have hloop:o4 l lo hi 0 = some (if sP (fun i=>decide (lo ≤ el l i ∧ el l i ≤ hi ∧ (0 < i→el l (i - 1) < el l i))) l.length = true then .inl () else .inr ()):=by
  refine fB? (step:=fun w=>gG l lo hi w) (fun i=>(i:Int)) l.length _ _ ?_ ?_
  ·intro i hi'
   simp only [gG,mN hi',if_true,eQ _ _ hi',Option.bind_some,b9 (show i < 9223372036854775807 by omega)]
   by_cases h3:0 < i
   ·have e1:IntKind.wrap .i64 ((i:Int) - 1) = ((i - 1:Nat):Int):=by rw [nS (by omega) (by omega)]; omega
    rw [e1,eQ l (i - 1) (by omega)]
    simp only [Option.bind_some,decide_eq_true_eq]
    repeat (any_goals split)
    all_goals try (simp only [decide_eq_true_eq,Bool.not_eq_true,Bool.not_eq_true',decide_eq_false_iff_not,bne_iff_ne,beq_iff_eq,ne_eq,Decidable.not_not] at *)
    all_goals first | rfl | (exfalso; omega) | (rw [if_pos (by omega)]) | (rw [if_neg (by omega)]) | omega
   ·simp only [decide_eq_true_eq]
    repeat (any_goals split)
    all_goals try (simp only [decide_eq_true_eq,Bool.not_eq_true,Bool.not_eq_true',decide_eq_false_iff_not,bne_iff_ne,beq_iff_eq,ne_eq,Decidable.not_not] at *)
    all_goals first | rfl | (exfalso; omega) | (rw [if_pos (by omega)]) | (rw [if_neg (by omega)]) | omega
  ·simp only [gG,oF,if_false]
 rw [hloop]
 generalize sP _ _ = b
 cases b <;> rfl
def WO (r:aA) (c:bJ):Bool :=
 sP (fun i=>decide (1 ≤ (el c.Feasts i).tmod 100 ∧ (el c.Feasts i).tmod 100 ≤ 31)) c.Feasts.length && (decide (c.Feasts.length ≤ 60) && (decide (c.Shut.length ≤ 200) && (decide (0 ≤ c.Order ∧ c.Order < r.Orders.length) && (decide (0 ≤ c.Currency ∧ c.Currency < r.Currencies.length) && (IP c.Rest 0 6 && (IP c.Feasts 101 1231 && IP c.Shut 0 100000))))))
theorem aFO (r:aA) (c:bJ) (h1:c.Feasts.length < 9223372036854775807) (h2:c.Rest.length < 9223372036854775807) (h3:c.Shut.length < 9223372036854775807):qZ r c = some (WO r c):=by
 unfold qZ WO
 have hloop:rZ r c 0 = some (if sP (fun i=>decide (1 ≤ (el c.Feasts i).tmod 100 ∧ (el c.Feasts i).tmod 100 ≤ 31)) c.Feasts.length = true then .inl () else .inr ()):=by
  refine fB? (step:=fun w=>iU r c w) (fun i=>(i:Int)) _ _ _ ?_ ?_
  ·intro i hi'
   simp only [iU,mN hi',if_true,eQ _ _ hi',Option.bind_some,b9 (show i < 9223372036854775807 by omega),decide_eq_true_eq]
   repeat (any_goals split)
   all_goals try (simp only [decide_eq_true_eq,Bool.not_eq_true,Bool.not_eq_true',decide_eq_false_iff_not,bne_iff_ne,beq_iff_eq,ne_eq,Decidable.not_not] at *)
   all_goals first | rfl | (exfalso; omega) | (rw [if_pos (by omega)]) | (rw [if_neg (by omega)]) | omega
  ·simp only [iU,oF,if_false]
 rw [hloop]
 simp only [KR,AG _ _ _ h1,AG _ _ _ h2,AG _ _ _ h3,Option.bind_some,decide_eq_true_eq]
 generalize sP _ _ = b
 cases b with
 | false=>rfl
 | true =>
  simp only [if_true,Sum.elim_inl,Bool.true_and]
  by_cases g1:(c.Feasts.length:Int) > 60
  ·rw [if_pos g1,decide_eq_false (by omega)]; rfl
  rw [if_neg g1,decide_eq_true (show c.Feasts.length ≤ 60 by omega)]
  by_cases g2:(c.Shut.length:Int) > 200
  ·rw [if_pos g2,decide_eq_false (by omega)]; rfl
  rw [if_neg g2,decide_eq_true (show c.Shut.length ≤ 200 by omega)]
  generalize decide (0 ≤ c.Order ∧ c.Order < r.Orders.length) = b1
  generalize decide (0 ≤ c.Currency ∧ c.Currency < r.Currencies.length) = b2
  generalize IP c.Rest 0 6 = b3
  generalize IP c.Feasts 101 1231 = b4
  generalize IP c.Shut 0 100000 = b5
  cases b1 <;> cases b2 <;> cases b3 <;> cases b4 <;> rfl
def S6 (o:bC):Bool:=sP (fun i=>decide (0 ≤ (el o.Choices i).By ∧ (el o.Choices i).By < 5)) o.Choices.length && (IP (o.Choices.map (·.Ask)) 0 21 && IP (o.Rules.map (·.Ask)) 0 21)
theorem aDk {α β:Type} [Inhabited α] [Inhabited β] (f:α→β) (l:List α) (i:Nat) (h:i < l.length):el (l.map f) i = f (el l i):=by
 rw [vL _ _ (by simpa using h),vL _ _ h]; simp
theorem E4 {α:Type} [Inhabited α] (l:List α) (i:Nat) (h:i < l.length):l.take i ++ [el l i] = l.take (i + 1):=by
 rw [vL l i h,List.take_append_getElem h]
theorem aBP (o:bC) (h1:o.Choices.length < 6000000000000) (h2:o.Rules.length < 6000000000000):o9 o = some (S6 o):=by
 unfold o9 S6
 have l1:pY o 0 [] = some (if sP (fun i=>decide (0 ≤ (el o.Choices i).By ∧ (el o.Choices i).By < 5)) o.Choices.length = true then .inl (o.Choices.map (·.Ask)) else .inr ()):=by
  have:=fB? (step:=fun w=>gW o w.1 w.2) (fun i=>((i:Int),(o.Choices.take i).map (·.Ask))) o.Choices.length (fun i=>decide (0 ≤ (el o.Choices i).By ∧ (el o.Choices i).By < 5)) (o.Choices.map (·.Ask)) ?_ ?_
  ·exact this
  ·intro i hi
   have hlen:((o.Choices.take i).map (·.Ask)).length = i:=by simp; omega
   simp only [gW,mN hi,if_true,eQ _ _ hi,Option.bind_some,b9 (show i < 9223372036854775807 by omega),KR,hlen]
   rw [if_pos (by omega)]
   have:(o.Choices.take i).map (·.Ask) ++ [(el o.Choices i).Ask] = (o.Choices.take (i + 1)).map (·.Ask):=by rw [← E4 _ _ hi]; simp
   rw [this]
   generalize decide (0 ≤ (el o.Choices i).By ∧ (el o.Choices i).By < 5) = b
   cases b <;> rfl
  ·simp only [gW,oF,if_false]
   simp
 have l2:∀ z,qG o z 0 [] = some (o.Rules.map (·.Ask)):=by
  intro z
  have:=fB (step:=fun w=>gX o z w.1 w.2) (fun i=>((i:Int),(o.Rules.take i).map (·.Ask))) o.Rules.length (o.Rules.map (·.Ask)) ?_ ?_
  ·exact this
  ·intro i hi
   have hlen:((o.Rules.take i).map (·.Ask)).length = i:=by simp; omega
   simp only [gX,mN hi,if_true,eQ _ _ hi,Option.bind_some,b9 (show i < 9223372036854775807 by omega),hlen]
   rw [if_pos (by omega)]
   have:(o.Rules.take i).map (·.Ask) ++ [(el o.Rules i).Ask] = (o.Rules.take (i + 1)).map (·.Ask):=by rw [← E4 _ _ hi]; simp
   rw [this]
  ·simp only [gX,oF,if_false]
   simp
 rw [l1]
 generalize sP _ _ = b
 cases b with
 | false=>rfl
 | true =>
  simp only [if_true,Option.bind_some,Sum.elim_inl,l2]
  rw [AG _ _ _ (by simp; omega),AG _ _ _ (by simp; omega)]
  generalize IP (o.Choices.map (·.Ask)) 0 21 = b1
  generalize IP (o.Rules.map (·.Ask)) 0 21 = b2
  cases b1 <;> cases b2 <;> rfl
def OW (l:List ByteArray) (F:Nat→Bool) (i:Nat):Int:=if tV l i = 0 then (if F i = true then 0 else 1) else tV l i
def B8 (l:List ByteArray) (most:Nat) (F:Nat→Bool):Int:=if l.length ≤ most then CE (OW l F) l.length else 6
theorem RP {S:Type} {step:S→Option (S ⊕ (Unit ⊕ Int))} (st:Nat→S) (n:Nat) (g:Nat→Int)
  (h:∀ i,i < n→step (st i) = some (GV (st (i + 1)) (g i))) (he:step (st n) = some (.inr (.inl ()))):(fY step (st 0)).bind (fun r=>Sum.elim (fun _=>some (0:Int)) (fun z=>some z) r) = some (CE g n):=by
 rw [qM st n (fun i=>if g i = 0 then none else some (g i)) () (fun i hi=>by rw [h i hi]; unfold GV; by_cases e:g i = 0 <;> simp [e]) he]
 simp only [Option.bind_some,I6 ()]
 rfl
theorem IX (l:List ByteArray) (hl:l.length < 9223372036854775807) (most:Nat) (step:Int→Option (Int ⊕ (Unit ⊕ Int))) (fine:Int→Option Bool)
  (hs:∀ p,step p = if decide (p < (l.length:Int)) = true then (iV l p).bind fun (r2:Int)=>if (r2 != 0) = true then some (.inr (.inr (r2))) else (fine p).bind fun (r3:Bool)=>if (!(r3)) = true then some (.inr (.inr (1))) else some (.inl (IntKind.wrap .i64 (p + 1))) else some (.inr (.inl ())))
  (F:Nat→Bool) (hf:∀ i,i < l.length→fine (i:Int) = some (F i)) :
  (if decide ((l.length:Int) > (most:Int)) = true then some 6 else (fY step 0).bind fun r5=>Sum.elim (fun z6=>some (0:Int)) (fun z7=>some z7) r5) = some (B8 l most F):=by
 unfold B8
 by_cases g:l.length ≤ most
 ·rw [if_pos g,decide_eq_false (by omega)]
  simp only [Bool.false_eq_true,if_false]
  refine RP (step:=step) (fun i=>(i:Int)) l.length _ ?_ ?_
  ·intro i hi
   rw [hs]
   simp only [mN hi,if_true,aDu l i hi hl,hf i hi,Option.bind_some,b9 (show i < 9223372036854775807 by omega),OW]
   generalize tV l i = e
   generalize F i = b
   by_cases h0:e = 0
   ·cases b <;> simp [h0,GV]
   ·simp [h0,GV]
  ·rw [hs]; simp only [oF,if_false]
 ·rw [if_neg g,decide_eq_true (by omega)]
  rfl
def usB (r:aA) (i k:Nat):Bool:=decide ((el r.Usances k).From = (el r.Usances i).From ∧ (el r.Usances k).To = (el r.Usances i).To)
def aHm (r:aA) (i:Nat):Int:=if (0 ≤ (el r.Usances i).From ∧ (el r.Usances i).From < r.Cities.length) ∧ (0 ≤ (el r.Usances i).To ∧ (el r.Usances i).To < r.Cities.length) ∧ 1 ≤ (el r.Usances i).Days ∧ (el r.Usances i).Days ≤ 20000 then (if sP (fun k=>!usB r i k) i = true then 0 else 5) else 1
def aAQ (r:aA):Int:=if r.Usances.length ≤ 100 then CE (aHm r) r.Usances.length else 6
theorem UA (r:aA) (h:r.Usances.length < 100000000000000):mD r = some (aAQ r):=by
 unfold mD aAQ
 by_cases g:r.Usances.length ≤ 100
 ·rw [if_pos g,decide_eq_false (by omega)]
  simp only [Bool.false_eq_true,if_false]
  refine RP (step:=fun w=>fQ r w) (fun i=>(i:Int)) r.Usances.length _ ?_ ?_
  ·intro i hi
   have hin:nR r i (el r.Usances i) 0 = some (if sP (fun k=>!usB r i k) i = true then .inl () else .inr ()):=by
    have hsl:(dB r.Usances 0 (i:Int)).length = i:=by simp [dB]; omega
    refine fB? (step:=fun w=>fR r i (el r.Usances i) w) (fun k=>(k:Int)) i _ _ ?_ ?_
    ·intro k hk
     have e1:el (dB r.Usances 0 (i:Int)) k = el r.Usances k:=by rw [vL _ _ (by omega),vL _ _ (by omega)]; simp [dB]
     simp only [fR,hsl,mN hk,if_true,eQ (dB r.Usances 0 (i:Int)) k (by omega),e1,Option.bind_some,b9 (show k < 9223372036854775807 by omega),beq_iff_eq,usB]
     by_cases a1:(el r.Usances k).From = (el r.Usances i).From <;> by_cases a2:(el r.Usances k).To = (el r.Usances i).To <;> simp [a1,a2]
    ·simp only [fR,hsl,oF,if_false]
   simp only [fQ,mN hi,if_true,eQ _ _ hi,Option.bind_some,b9 (show i < 9223372036854775807 by omega),KR,decide_eq_true_eq,hin,aHm]
   rw [if_pos (show fW r.Usances.length 0 (i:Int) from ⟨Int.le_refl _,by omega,by omega⟩)]
   generalize sP _ _ = b
   generalize el r.Usances i = u
   by_cases g1:0 ≤ u.From ∧ u.From < r.Cities.length
   ·by_cases g2:0 ≤ u.To ∧ u.To < r.Cities.length
    ·by_cases g3:u.Days < 1
     ·rw [if_neg (show ¬ (_ ∧ _ ∧ _ ∧ _) from fun q=>absurd q.2.2.1 (by omega))]
      simp [g1,g2,g3,GV]
     by_cases g4:u.Days > 20000
     ·rw [if_neg (show ¬ (_ ∧ _ ∧ _ ∧ _) from fun q=>absurd q.2.2.2 (by omega))]
      simp [g1,g2,g3,g4,GV]
     ·rw [if_pos (show _ ∧ _ ∧ _ ∧ _ from ⟨g1,g2,by omega,by omega⟩)]
      cases b <;> simp [g1,g2,g3,g4,GV]
    ·rw [if_neg (show ¬ (_ ∧ _ ∧ _ ∧ _) from fun q=>g2 q.2.1)]
     simp [g1,g2,GV]
   ·rw [if_neg (show ¬ (_ ∧ _ ∧ _ ∧ _) from fun q=>g1 q.1)]
    simp [g1,GV]
  ·simp only [fQ,oF,if_false]
 ·rw [if_neg g,decide_eq_true (by omega)]
  rfl
def WN (r:aA) (x:bV):Bool:=decide ((0 ≤ x.From ∧ x.From < r.Currencies.length) ∧ (0 ≤ x.To ∧ x.To < r.Currencies.length) ∧ x.From ≠ x.To ∧ (1 ≤ x.Num ∧ x.Num ≤ 1073741824) ∧ (1 ≤ x.Den ∧ x.Den ≤ 1073741824) ∧ 0 ≤ x.Since ∧ x.Since ≤ 100000)
def WC (r:aA) (x:bZ):Bool:=decide ((0 ≤ x.Order ∧ x.Order < r.Orders.length) ∧ 0 ≤ x.From ∧ x.From ≤ x.To ∧ x.To ≤ 100000)
def I3 (r:aA):Int:=if r.Rates.length ≤ 100 then (if sP (fun i=>WN r (el r.Rates i)) r.Rates.length = true then (if r.Halts.length ≤ 20 then (if sP (fun i=>WC r (el r.Halts i)) r.Halts.length = true then 0 else 1) else 6) else 1) else 6
theorem MC (n:Int) (h:pE n):(0 ≤ IntKind.wrap .i64 (n - 1) ∧ IntKind.wrap .i64 (n - 1) < 1073741824) ↔ (1 ≤ n ∧ n ≤ 1073741824):=by
 unfold pE at h
 by_cases e:n = -9223372036854775808
 ·subst e
  have:IntKind.wrap .i64 (-9223372036854775808 - 1) = 9223372036854775807:=by decide
  rw [this]; omega
 ·rw [nS (by omega) (by omega)]; omega
theorem aE6 (r:aA) (h1:r.Rates.length < 100000000000000) (h2:r.Halts.length < 100000000000000) (hw:Wl bV.wf r.Rates):qV r = some (I3 r):=by
 unfold qV I3
 have l1:rR r 0 = some (if sP (fun i=>WN r (el r.Rates i)) r.Rates.length = true then .inl () else .inr ()):=by
  refine fB? (step:=fun w=>iQ r w) (fun i=>(i:Int)) _ _ _ ?_ ?_
  ·intro i hi
   have hx:=hw.2 _ (F3 r.Rates i hi)
   simp only [iQ,mN hi,if_true,eQ _ _ hi,Option.bind_some,b9 (show i < 9223372036854775807 by omega),KR,WN]
   generalize el r.Rates i = x at hx
   have a1:=MC x.Num hx.2.2.1
   have a2:=MC x.Den hx.2.2.2.1
   simp only [a1,a2,Bool.not_eq_true',decide_eq_false_iff_not,beq_iff_eq,decide_eq_true_eq]
   repeat (any_goals split)
   all_goals try (simp only [decide_eq_true_eq,Bool.not_eq_true,Bool.not_eq_true',decide_eq_false_iff_not,bne_iff_ne,beq_iff_eq,ne_eq,Decidable.not_not] at *)
   all_goals first | rfl | (exfalso; omega) | (rw [if_pos (by omega)]) | (rw [if_neg (by omega)]) | omega
  ·simp only [iQ,oF,if_false]
 have l2:sD r 0 = some (if sP (fun i=>WC r (el r.Halts i)) r.Halts.length = true then .inl () else .inr ()):=by
  refine fB? (step:=fun w=>iS r w) (fun i=>(i:Int)) _ _ _ ?_ ?_
  ·intro i hi
   simp only [iS,mN hi,if_true,eQ _ _ hi,Option.bind_some,b9 (show i < 9223372036854775807 by omega),KR,WC]
   generalize el r.Halts i = x
   simp only [Bool.not_eq_true',decide_eq_false_iff_not,beq_iff_eq,decide_eq_true_eq]
   repeat (any_goals split)
   all_goals try (simp only [decide_eq_true_eq,Bool.not_eq_true,Bool.not_eq_true',decide_eq_false_iff_not,bne_iff_ne,beq_iff_eq,ne_eq,Decidable.not_not] at *)
   all_goals first | rfl | (exfalso; omega) | (rw [if_pos (by omega)]) | (rw [if_neg (by omega)]) | omega
  ·simp only [iS,oF,if_false]
 rw [l1,l2]
 generalize sP (fun i=>WN r (el r.Rates i)) r.Rates.length = b1
 generalize sP (fun i=>WC r (el r.Halts i)) r.Halts.length = b2
 by_cases g1:r.Rates.length ≤ 100
 ·rw [decide_eq_false (show ¬ (r.Rates.length:Int) > 100 by omega),if_pos g1]
  by_cases g2:r.Halts.length ≤ 20
  ·rw [decide_eq_false (show ¬ (r.Halts.length:Int) > 20 by omega),if_pos g2]
   cases b1 <;> cases b2 <;> rfl
  ·rw [decide_eq_true (show (r.Halts.length:Int) > 20 by omega),if_neg g2]
   cases b1 <;> cases b2 <;> rfl
 ·rw [decide_eq_true (show (r.Rates.length:Int) > 100 by omega),if_neg g1]
  rfl
def orE (a b:Int):Int:=if a = 0 then b else a
theorem aCY {a b:Int}:orE a b = 0 ↔ a = 0 ∧ b = 0:=by
 unfold orE
 by_cases h:a = 0 <;> simp [h]
def aHh (r:aA) (x:bU):Bool:=decide ((0 ≤ x.City ∧ x.City < r.Cities.length) ∧ 0 ≤ x.Group ∧ x.Group < r.Groups.length)
def aAM (r:aA):Int:=if r.Groups.length ≤ 20 then (if sP (fun i=>decide (0 ≤ (el r.Groups i).Grade ∧ (el r.Groups i).Grade < 10)) r.Groups.length = true then 0 else 1) else 6
def V1 (r:aA):Int:=B8 r.Currencies 8 (fun _=>true)
def WI (r:aA):Int:=B8 (r.Cities.map (·.Name)) 40 (fun i=>WO r (el r.Cities i))
def WX (r:aA):Int:=B8 (r.Firms.map (·.Name)) 200 (fun i=>aHh r (el r.Firms i))
def VU (r:aA):Int:=B8 (r.Orders.map (·.Name)) 20 (fun i=>S6 (el r.Orders i))
def NT (r:aA):Int:=orE (V1 r) (orE (WI r) (orE (aAM r) (orE (WX r) (orE (VU r) (orE (aAQ r) (I3 r))))))
theorem MZ (r:aA) (f:IG r) (w:aA.wf r):pA r = some (NT r):=by
 obtain ⟨w1,w2,w3,w4,w5,w6,w7,w8⟩:=w
 have hcl:(r.Cities.map (·.Name)).length = r.Cities.length:=by simp
 have hfl:(r.Firms.map (·.Name)).length = r.Firms.length:=by simp
 have hol:(r.Orders.map (·.Name)).length = r.Orders.length:=by simp
 have a1:lV r.Currencies 8 = some (V1 r):=by
  unfold lV
  exact IX r.Currencies (by have:=f.cur; omega) 8 (fun w=>jX r.Currencies w) oL (fun p=>rfl) (fun _=>true) (fun i hi=>rfl)
 have a2:mH (r.Cities.map (·.Name)) 40 r = some (WI r):=by
  unfold mH
  refine IX (r.Cities.map (·.Name)) (by have:=f.cit; omega) 40 (fun w=>jW (r.Cities.map (·.Name)) r w) (fun p=>jI p r) (fun p=>rfl) _ (fun i hi=>?_)
  rw [hcl] at hi
  obtain ⟨q1,q2,q3⟩:=f.cityL i hi
  simp only [jI,eQ _ _ hi,Option.bind_some,aFO r (el r.Cities i) (by omega) (by omega) (by omega)]
 have a3:mI (r.Firms.map (·.Name)) 200 r = some (WX r):=by
  unfold mI
  refine IX (r.Firms.map (·.Name)) (by have:=f.frm; omega) 200 (fun w=>jV (r.Firms.map (·.Name)) r w) (fun p=>jJ p r) (fun p=>rfl) _ (fun i hi=>?_)
  rw [hfl] at hi
  simp only [jJ,eQ _ _ hi,Option.bind_some,KR,decide_eq_true_eq,aHh]
  by_cases g:0 ≤ (el r.Firms i).City ∧ (el r.Firms i).City < r.Cities.length <;> simp [g]
 have a4:mA (r.Orders.map (·.Name)) 20 r = some (VU r):=by
  unfold mA
  refine IX (r.Orders.map (·.Name)) (by have:=f.ord; omega) 20 (fun w=>jU (r.Orders.map (·.Name)) r w) (fun p=>jG p r) (fun p=>rfl) _ (fun i hi=>?_)
  rw [hol] at hi
  obtain ⟨q1,q2⟩:=f.orderL i hi
  simp only [jG,eQ _ _ hi,Option.bind_some,aBP (el r.Orders i) (by omega) (by omega)]
 have a5:∀ z,qH r z 0 = some (if sP (fun i=>decide (0 ≤ (el r.Groups i).Grade ∧ (el r.Groups i).Grade < 10)) r.Groups.length = true then .inl () else .inr ()):=by
  intro z
  refine fB? (step:=fun w=>gQ r z w) (fun i=>(i:Int)) _ _ _ ?_ ?_
  ·intro i hi
   have:=f.grp
   simp only [gQ,mN hi,if_true,eQ _ _ hi,Option.bind_some,b9 (show i < 9223372036854775807 by omega),KR]
   generalize decide (0 ≤ (el r.Groups i).Grade ∧ (el r.Groups i).Grade < 10) = b
   cases b <;> rfl
  ·simp only [gQ,oF,if_false]
 unfold pA NT
 simp only [aBf r f,Option.bind_some,a1,a2,a3,a4,a5,UA r f.usa,aE6 r f.rat f.hal w7]
 generalize V1 r = e1
 generalize WI r = e2
 generalize WX r = e3
 generalize VU r = e4
 generalize aAQ r = e5
 generalize I3 r = e6
 unfold aAM
 generalize sP _ _ = b
 unfold orE
 by_cases z1:e1 = 0
 ·by_cases z2:e2 = 0
  ·by_cases gg:r.Groups.length ≤ 20
   ·have gg' : ¬ (r.Groups.length:Int) > 20:=by omega
    cases b with
    | false=>simp [z1,z2,gg,gg']
    | true =>
     by_cases z3:e3 = 0
     ·by_cases z4:e4 = 0
      ·by_cases z5:e5 = 0 <;> simp [z1,z2,gg,gg',z3,z4,z5]
      ·simp [z1,z2,gg,gg',z3,z4]
     ·simp [z1,z2,gg,gg',z3]
   ·have gg' : (r.Groups.length:Int) > 20:=by omega
    simp [z1,z2,gg,gg']
  ·simp [z1,z2]
 ·simp [z1]
end Go.Proofs.Ytfhebiceipgdmaa
