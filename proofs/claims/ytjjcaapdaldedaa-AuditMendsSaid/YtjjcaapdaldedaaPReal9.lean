/- What realm.Check answers, exactly; and that the reference of layer 9 answers the same. -/
import Derived.Test.YtjjcaapdaldedaaPRealm
import Derived.Test.YtjjcaapdaldedaaVmG
set_option linter.unusedVariables false
set_option linter.unusedSimpArgs false
namespace Go.Proofs.Ytjjcaapdaldedaa
open Go.RowKit Vm
def aBE (x:Int):Bool:=(decide (97 <= x) && decide (x <= 122)) || (decide (65 <= x) && decide (x <= 90))
def aED (x:Int):Bool:=x == 95 || (decide (48 <= x) && decide (x <= 57))
def YH (s:ByteArray) (i:Nat):Bool:=aBE (el (lM s) i) || (i != 0 && aED (el (lM s) i))
def aBu (s:ByteArray):Bool:=decide (1 <= s.size) && (decide (s.size <= 20) && lU (fun i=>if YH s i = true then none else some false) true 0 s.size)
theorem P5 (s:ByteArray):(lM s).length = s.size:=by simp [lM]
theorem UN (s:ByteArray) (i:Nat) (x:Int) (b:Bool):eJ s i x b = some (if (b || (i != 0 && aED x)) = true then .inl () else .inr ()):=by
 unfold eJ aED
 cases b with
 | true=>simp
 | false =>
  by_cases h0:i = 0
  ·simp [h0]
  ·by_cases h1:x = 95
   ·simp [h0,h1]
   ·by_cases h2:x < 48
    ·have:¬ 48 <= x:=by omega
     simp [h0,h1,h2,this]
    ·by_cases h3:x > 57
     ·have:¬ x <= 57:=by omega
      simp [h0,h1,h2,h3,this]
     ·have e1:48 <= x:=by omega
      have e2:x <= 57:=by omega
      simp [h0,h1,h2,h3,e1,e2]
theorem YS {α:Type} (p:Nat->Bool) (a b:α) (m:Nat):∀ k:Nat,Sum.elim (fun _=>some a) (fun _=>some b) (lU (fun i=>if p i = true then none else some (Sum.inr ())) (Sum.inl ():Unit ⊕ Unit) k m) = some (lU (fun i=>if p i = true then none else some b) a k m):=by
 induction m with
 | zero=>intro k; rfl
 | succ m ih =>
  intro k
  simp only [lU]
  by_cases h:p k = true
  ·simp only [if_pos h]; exact ih (k + 1)
  ·simp only [if_neg h]; rfl
theorem aBV (s:ByteArray):l9 s = some (aBu s):=by
 unfold l9 aBu
 by_cases h0:s.size = 0
 ·have:s = ByteArray.empty:=ByteArray.size_eq_zero_iff.1 h0
  subst this
  simp
 ·have e0:(s.toList == ByteArray.empty.toList) = false:=by
   cases h:s.toList == ByteArray.empty.toList with
   | false=>rfl
   | true =>
    have h1:s.toList = ByteArray.empty.toList:=by simpa using h
    rw [ByteArray.toList_eq,ByteArray.toList_eq] at h1
    have h2:s.data.toList.length = 0:=by rw [h1]; rfl
    exact absurd (show s.size = 0 by simpa using h2) h0
  rw [e0]
  simp only [Bool.false_eq_true,if_false]
  by_cases h1:(s.size:Int) > 20
  ·have:¬ s.size <= 20:=by omega
   simp [h1,this]
  ·have e1:s.size <= 20:=by omega
   have e2:1 <= s.size:=by omega
   have hloop:oP s 0 = some (lU (fun i=>if YH s i = true then none else some (Sum.inr ())) (Sum.inl ()) 0 s.size):=by
    refine SL (step:=fun w=>dS s w) (fun i=>(i:Int)) _ _ _ ?_ ?_
    ·intro i hi
     have hi' : i < (lM s).length:=by rw [P5]; exact hi
     simp only [dS,nG hi',if_true,fI _ _ hi',Option.bind_some,UN,bC (show i < 9223372036854775807 by omega)]
     unfold YH aBE
     generalize el (lM s) i = x
     by_cases a1:97 <= x <;> by_cases a2:x <= 122 <;> by_cases a3:65 <= x <;> by_cases a4:x <= 90 <;> simp [a1,a2,a3,a4] <;> split <;> simp_all
    ·simp only [dS,← P5,pA,if_false]
   rw [hloop]
   simp only [Option.bind_some,YS]
   simp [e1,e2,h1]
theorem aMo (a b:ByteArray):(a.toList == b.toList) = decide (a = b):=by
 by_cases h:a = b
 ·subst h; simp
 ·rw [decide_eq_false h]
  cases e:a.toList == b.toList with
  | false=>rfl
  | true =>
   have e:a.toList = b.toList:=by simpa using e
   rw [ByteArray.toList_eq,ByteArray.toList_eq] at e
   exact absurd (ByteArray.ext (Array.ext' e)) h
def JO (l:List ByteArray) (x:ByteArray) (n:Nat):Bool:=lU (fun j=>if el l j = x then some true else none) false 0 n
def GX (l:List ByteArray) (i:Nat):Int:=if aBu (el l i) = true then (if JO l (el l i) i = true then 5 else 0) else 2
theorem aGJ (l:List ByteArray) (x:ByteArray) (hl:l.length < 9223372036854775807):bV l x = some (lU (fun j=>if el l j = x then some (j:Int) else none) (-1) 0 l.length):=by
 unfold bV
 have hloop:eI l x 0 = some (lU (fun j=>if el l j = x then some (Sum.inr (j:Int)) else none) (Sum.inl ()) 0 l.length):=by
  refine SL (step:=fun w=>aX l x w) (fun i=>(i:Int)) _ _ _ ?_ ?_
  ·intro i hi
   simp only [aX,nG hi,if_true,fI _ _ hi,Option.bind_some,bC (show i < 9223372036854775807 by omega),aMo,decide_eq_true_eq]
   by_cases h:x = el l i
   ·rw [if_pos h,if_pos h.symm]
   ·rw [if_neg h,if_neg (fun q=>h q.symm)]
  ·simp only [aX,pA,if_false]
 rw [hloop]
 simp only [Option.bind_some]
 have key:∀ (m k:Nat),Sum.elim (fun _=>some (-1:Int)) (fun z=>some z) (lU (fun j=>if el l j = x then some (Sum.inr (j:Int)) else none) (Sum.inl ():Unit ⊕ Int) k m) = some (lU (fun j=>if el l j = x then some (j:Int) else none) (-1) k m):=by
  intro m
  induction m with
  | zero=>intro k; rfl
  | succ m ih =>
   intro k
   simp only [lU]
   by_cases h:el l k = x
   ·simp only [if_pos h]; rfl
   ·simp only [if_neg h]; exact ih (k + 1)
 exact key _ 0
theorem UZ (l:List ByteArray) (x:ByteArray) (hl:l.length < 9223372036854775807):bN l x = some (JO l x l.length):=by
 unfold bN
 rw [aGJ l x hl]
 simp only [Option.bind_some,Option.some.injEq]
 unfold JO
 have key:∀ (m k:Nat),decide (lU (fun j=>if el l j = x then some (j:Int) else none) (-1) k m ≥ 0) = lU (fun j=>if el l j = x then some true else none) false k m:=by
  intro m
  induction m with
  | zero=>intro k; rfl
  | succ m ih =>
   intro k
   simp only [lU]
   by_cases h:el l k = x
   ·simp only [if_pos h]; simp
   ·simp only [if_neg h]; exact ih (k + 1)
 exact key _ 0
theorem aEL (l:List ByteArray) (i:Nat) (hi:i < l.length) (hl:l.length < 9223372036854775807):gO l i = some (GX l i):=by
 unfold gO GX
 rw [fI l i hi]
 simp only [Option.bind_some,aBV]
 cases aBu (el l i) with
 | false=>rfl
 | true =>
  have hsl:(lZ l 0 (i:Int)).length = i:=by simp [lZ]; omega
  rw [if_pos (show yF l.length 0 i from ⟨Int.le_refl _,by omega,by omega⟩),UZ _ _ (by omega),hsl]
  have:JO (lZ l 0 (i:Int)) (el l i) i = JO l (el l i) i:=by
   unfold JO
   refine KE _ _ (fun j h1 h2=>?_) rfl
   have:el (lZ l 0 (i:Int)) j = el l j:=by
    rw [uM _ _ (by omega),uM _ _ (by omega)]
    simp [lZ]
   rw [this]
  rw [this]
  simp only [Option.bind_some,Bool.not_true,Bool.false_eq_true,if_false,if_true]
  cases JO l (el l i) i <;> rfl
def LI (l:List Int) (lo hi:Int):Bool:=vC (fun i=>decide (lo <= el l i ∧ el l i <= hi ∧ (0 < i->el l (i - 1) < el l i))) l.length
theorem C8 (l:List Int) (lo hi:Int) (hl:l.length < 9223372036854775807):gK l lo hi = some (LI l lo hi):=by
 unfold gK LI
 have hloop:oR l lo hi 0 = some (if vC (fun i=>decide (lo <= el l i ∧ el l i <= hi ∧ (0 < i->el l (i - 1) < el l i))) l.length = true then .inl () else .inr ()):=by
  refine mJ? (step:=fun w=>dQ l lo hi w) (fun i=>(i:Int)) l.length _ _ ?_ ?_
  ·intro i hi'
   simp only [dQ,nG hi',if_true,fI _ _ hi',Option.bind_some,bC (show i < 9223372036854775807 by omega)]
   by_cases h3:0 < i
   ·have e1:IntKind.wrap .i64 ((i:Int) - 1) = ((i - 1:Nat):Int):=by rw [GR (by omega) (by omega)]; omega
    rw [e1,fI l (i - 1) (by omega)]
    simp only [Option.bind_some,decide_eq_true_eq]
    repeat (any_goals split)
    all_goals try (simp only [decide_eq_true_eq,Bool.not_eq_true,Bool.not_eq_true',decide_eq_false_iff_not,bne_iff_ne,beq_iff_eq,ne_eq,Decidable.not_not] at *)
    all_goals first | rfl | (exfalso; omega) | (rw [if_pos (by omega)]) | (rw [if_neg (by omega)]) | omega
   ·simp only [decide_eq_true_eq]
    repeat (any_goals split)
    all_goals try (simp only [decide_eq_true_eq,Bool.not_eq_true,Bool.not_eq_true',decide_eq_false_iff_not,bne_iff_ne,beq_iff_eq,ne_eq,Decidable.not_not] at *)
    all_goals first | rfl | (exfalso; omega) | (rw [if_pos (by omega)]) | (rw [if_neg (by omega)]) | omega
  ·simp only [dQ,pA,if_false]
 rw [hloop]
 generalize vC _ _ = b
 cases b <;> rfl
def QF (r:aB) (c:aW):Bool :=
 vC (fun i=>decide (1 <= (el c.Feasts i).tmod 100 ∧ (el c.Feasts i).tmod 100 <= 31)) c.Feasts.length && (decide (c.Feasts.length <= 60) && (decide (c.Shut.length <= 200) && (decide (0 <= c.Order ∧ c.Order < r.Orders.length) && (decide (0 <= c.Currency ∧ c.Currency < r.Currencies.length) && (LI c.Rest 0 6 && (LI c.Feasts 101 1231 && LI c.Shut 0 100000))))))
theorem aIE (r:aB) (c:aW) (h1:c.Feasts.length < 9223372036854775807) (h2:c.Rest.length < 9223372036854775807) (h3:c.Shut.length < 9223372036854775807):pK r c = some (QF r c):=by
 unfold pK QF
 have hloop:sH r c 0 = some (if vC (fun i=>decide (1 <= (el c.Feasts i).tmod 100 ∧ (el c.Feasts i).tmod 100 <= 31)) c.Feasts.length = true then .inl () else .inr ()):=by
  refine mJ? (step:=fun w=>fN r c w) (fun i=>(i:Int)) _ _ _ ?_ ?_
  ·intro i hi'
   simp only [fN,nG hi',if_true,fI _ _ hi',Option.bind_some,bC (show i < 9223372036854775807 by omega),decide_eq_true_eq]
   repeat (any_goals split)
   all_goals try (simp only [decide_eq_true_eq,Bool.not_eq_true,Bool.not_eq_true',decide_eq_false_iff_not,bne_iff_ne,beq_iff_eq,ne_eq,Decidable.not_not] at *)
   all_goals first | rfl | (exfalso; omega) | (rw [if_pos (by omega)]) | (rw [if_neg (by omega)]) | omega
  ·simp only [fN,pA,if_false]
 rw [hloop]
 simp only [BC,C8 _ _ _ h1,C8 _ _ _ h2,C8 _ _ _ h3,Option.bind_some,decide_eq_true_eq]
 generalize vC _ _ = b
 cases b with
 | false=>rfl
 | true =>
  simp only [if_true,Sum.elim_inl,Bool.true_and]
  by_cases g1:(c.Feasts.length:Int) > 60
  ·rw [if_pos g1,decide_eq_false (by omega)]; rfl
  rw [if_neg g1,decide_eq_true (show c.Feasts.length <= 60 by omega)]
  by_cases g2:(c.Shut.length:Int) > 200
  ·rw [if_pos g2,decide_eq_false (by omega)]; rfl
  rw [if_neg g2,decide_eq_true (show c.Shut.length <= 200 by omega)]
  generalize decide (0 <= c.Order ∧ c.Order < r.Orders.length) = b1
  generalize decide (0 <= c.Currency ∧ c.Currency < r.Currencies.length) = b2
  generalize LI c.Rest 0 6 = b3
  generalize LI c.Feasts 101 1231 = b4
  generalize LI c.Shut 0 100000 = b5
  cases b1 <;> cases b2 <;> cases b3 <;> cases b4 <;> rfl
def wW (o:aC):Bool:=vC (fun i=>decide (0 <= (el o.Choices i).By ∧ (el o.Choices i).By < 5)) o.Choices.length && (LI (o.Choices.map (·.Ask)) 0 21 && LI (o.Rules.map (·.Ask)) 0 21)
theorem EX {α:Type} [Inhabited α] (l:List α) (i:Nat) (h:i < l.length):l.take i ++ [el l i] = l.take (i + 1):=by
 rw [uM l i h,List.take_append_getElem h]
theorem aGl (o:aC) (h1:o.Choices.length < 6000000000000) (h2:o.Rules.length < 6000000000000):nJ o = some (wW o):=by
 unfold nJ wW
 have l1:qQ o 0 [] = some (if vC (fun i=>decide (0 <= (el o.Choices i).By ∧ (el o.Choices i).By < 5)) o.Choices.length = true then .inl (o.Choices.map (·.Ask)) else .inr ()):=by
  have:=mJ? (step:=fun w=>eQ o w.1 w.2) (fun i=>((i:Int),(o.Choices.take i).map (·.Ask))) o.Choices.length (fun i=>decide (0 <= (el o.Choices i).By ∧ (el o.Choices i).By < 5)) (o.Choices.map (·.Ask)) ?_ ?_
  ·exact this
  ·intro i hi
   have hlen:((o.Choices.take i).map (·.Ask)).length = i:=by simp; omega
   simp only [eQ,nG hi,if_true,fI _ _ hi,Option.bind_some,bC (show i < 9223372036854775807 by omega),BC,hlen]
   rw [if_pos (by omega)]
   have:(o.Choices.take i).map (·.Ask) ++ [(el o.Choices i).Ask] = (o.Choices.take (i + 1)).map (·.Ask):=by rw [← EX _ _ hi]; simp
   rw [this]
   generalize decide (0 <= (el o.Choices i).By ∧ (el o.Choices i).By < 5) = b
   cases b <;> rfl
  ·simp only [eQ,pA,if_false]
   simp
 have l2:∀ z,qP o z 0 [] = some (o.Rules.map (·.Ask)):=by
  intro z
  have:=mJ (step:=fun w=>eS o z w.1 w.2) (fun i=>((i:Int),(o.Rules.take i).map (·.Ask))) o.Rules.length (o.Rules.map (·.Ask)) ?_ ?_
  ·exact this
  ·intro i hi
   have hlen:((o.Rules.take i).map (·.Ask)).length = i:=by simp; omega
   simp only [eS,nG hi,if_true,fI _ _ hi,Option.bind_some,bC (show i < 9223372036854775807 by omega),hlen]
   rw [if_pos (by omega)]
   have:(o.Rules.take i).map (·.Ask) ++ [(el o.Rules i).Ask] = (o.Rules.take (i + 1)).map (·.Ask):=by rw [← EX _ _ hi]; simp
   rw [this]
  ·simp only [eS,pA,if_false]
   simp
 rw [l1]
 generalize vC _ _ = b
 cases b with
 | false=>rfl
 | true =>
  simp only [if_true,Option.bind_some,Sum.elim_inl,l2]
  rw [C8 _ _ _ (by simp; omega),C8 _ _ _ (by simp; omega)]
  generalize LI (o.Choices.map (·.Ask)) 0 21 = b1
  generalize LI (o.Rules.map (·.Ask)) 0 21 = b2
  cases b1 <;> cases b2 <;> rfl
def YO (l:List ByteArray) (F:Nat->Bool) (i:Nat):Int:=if GX l i = 0 then (if F i = true then 0 else 1) else GX l i
def D8 (l:List ByteArray) (most:Nat) (F:Nat->Bool):Int:=if l.length <= most then aFF (YO l F) l.length else 6
theorem VZ {S:Type} {step:S->Option (S ⊕ (Unit ⊕ Int))} (st:Nat->S) (n:Nat) (g:Nat->Int)
  (h:∀ i,i < n->step (st i) = some (UC (st (i + 1)) (g i))) (he:step (st n) = some (.inr (.inl ()))):(eO step (st 0)).bind (fun r=>Sum.elim (fun _=>some (0:Int)) (fun z=>some z) r) = some (aFF g n):=by
 rw [EE st n (fun i=>if g i = 0 then none else some (g i)) () (fun i hi=>by rw [h i hi]; unfold UC; by_cases e:g i = 0 <;> simp [e]) he]
 simp only [Option.bind_some,aFu ()]
 rfl
theorem O0 (l:List ByteArray) (hl:l.length < 9223372036854775807) (most:Nat) (step:Int->Option (Int ⊕ (Unit ⊕ Int))) (fine:Int->Option Bool)
  (hs:∀ p,step p = if decide (p < (l.length:Int)) = true then (gO l p).bind fun (r2:Int)=>if (r2 != 0) = true then some (.inr (.inr (r2))) else (fine p).bind fun (r3:Bool)=>if (!(r3)) = true then some (.inr (.inr (1))) else some (.inl (IntKind.wrap .i64 (p + 1))) else some (.inr (.inl ())))
  (F:Nat->Bool) (hf:∀ i,i < l.length->fine (i:Int) = some (F i)) :
  (if decide ((l.length:Int) > (most:Int)) = true then some 6 else (eO step 0).bind fun r5=>Sum.elim (fun z6=>some (0:Int)) (fun z7=>some z7) r5) = some (D8 l most F):=by
 unfold D8
 by_cases g:l.length <= most
 ·rw [if_pos g,decide_eq_false (by omega)]
  simp only [Bool.false_eq_true,if_false]
  refine VZ (step:=step) (fun i=>(i:Int)) l.length _ ?_ ?_
  ·intro i hi
   rw [hs]
   simp only [nG hi,if_true,aEL l i hi hl,hf i hi,Option.bind_some,bC (show i < 9223372036854775807 by omega),YO]
   generalize GX l i = e
   generalize F i = b
   by_cases h0:e = 0
   ·cases b <;> simp [h0,UC]
   ·simp [h0,UC]
  ·rw [hs]; simp only [pA,if_false]
 ·rw [if_neg g,decide_eq_true (by omega)]
  rfl
def usB (r:aB) (i k:Nat):Bool:=decide ((el r.Usances k).From = (el r.Usances i).From ∧ (el r.Usances k).To = (el r.Usances i).To)
def aKe (r:aB) (i:Nat):Int:=if (0 <= (el r.Usances i).From ∧ (el r.Usances i).From < r.Cities.length) ∧ (0 <= (el r.Usances i).To ∧ (el r.Usances i).To < r.Cities.length) ∧ 1 <= (el r.Usances i).Days ∧ (el r.Usances i).Days <= 20000 then (if vC (fun k=>!usB r i k) i = true then 0 else 5) else 1
def aHz (r:aB):Int:=if r.Usances.length <= 100 then aFF (aKe r) r.Usances.length else 6
theorem YI (r:aB) (h:r.Usances.length < 100000000000000):kM r = some (aHz r):=by
 unfold kM aHz
 by_cases g:r.Usances.length <= 100
 ·rw [if_pos g,decide_eq_false (by omega)]
  simp only [Bool.false_eq_true,if_false]
  refine VZ (step:=fun w=>dF r w) (fun i=>(i:Int)) r.Usances.length _ ?_ ?_
  ·intro i hi
   have hin:mW r i (el r.Usances i) 0 = some (if vC (fun k=>!usB r i k) i = true then .inl () else .inr ()):=by
    have hsl:(lZ r.Usances 0 (i:Int)).length = i:=by simp [lZ]; omega
    refine mJ? (step:=fun w=>dG r i (el r.Usances i) w) (fun k=>(k:Int)) i _ _ ?_ ?_
    ·intro k hk
     have e1:el (lZ r.Usances 0 (i:Int)) k = el r.Usances k:=by rw [uM _ _ (by omega),uM _ _ (by omega)]; simp [lZ]
     simp only [dG,hsl,nG hk,if_true,fI (lZ r.Usances 0 (i:Int)) k (by omega),e1,Option.bind_some,bC (show k < 9223372036854775807 by omega),beq_iff_eq,usB]
     by_cases a1:(el r.Usances k).From = (el r.Usances i).From <;> by_cases a2:(el r.Usances k).To = (el r.Usances i).To <;> simp [a1,a2]
    ·simp only [dG,hsl,pA,if_false]
   simp only [dF,nG hi,if_true,fI _ _ hi,Option.bind_some,bC (show i < 9223372036854775807 by omega),BC,decide_eq_true_eq,hin,aKe]
   rw [if_pos (show yF r.Usances.length 0 (i:Int) from ⟨Int.le_refl _,by omega,by omega⟩)]
   generalize vC _ _ = b
   generalize el r.Usances i = u
   by_cases g1:0 <= u.From ∧ u.From < r.Cities.length
   ·by_cases g2:0 <= u.To ∧ u.To < r.Cities.length
    ·by_cases g3:u.Days < 1
     ·rw [if_neg (show ¬ (_ ∧ _ ∧ _ ∧ _) from fun q=>absurd q.2.2.1 (by omega))]
      simp [g1,g2,g3,UC]
     by_cases g4:u.Days > 20000
     ·rw [if_neg (show ¬ (_ ∧ _ ∧ _ ∧ _) from fun q=>absurd q.2.2.2 (by omega))]
      simp [g1,g2,g3,g4,UC]
     ·rw [if_pos (show _ ∧ _ ∧ _ ∧ _ from ⟨g1,g2,by omega,by omega⟩)]
      cases b <;> simp [g1,g2,g3,g4,UC]
    ·rw [if_neg (show ¬ (_ ∧ _ ∧ _ ∧ _) from fun q=>g2 q.2.1)]
     simp [g1,g2,UC]
   ·rw [if_neg (show ¬ (_ ∧ _ ∧ _ ∧ _) from fun q=>g1 q.1)]
    simp [g1,UC]
  ·simp only [dF,pA,if_false]
 ·rw [if_neg g,decide_eq_true (by omega)]
  rfl
def SM (r:aB) (x:bK):Bool:=decide ((0 <= x.From ∧ x.From < r.Currencies.length) ∧ (0 <= x.To ∧ x.To < r.Currencies.length) ∧ x.From ≠ x.To ∧ (1 <= x.Num ∧ x.Num <= 1073741824) ∧ (1 <= x.Den ∧ x.Den <= 1073741824) ∧ 0 <= x.Since ∧ x.Since <= 100000)
def O9 (r:aB) (x:bR):Bool:=decide ((0 <= x.Order ∧ x.Order < r.Orders.length) ∧ 0 <= x.From ∧ x.From <= x.To ∧ x.To <= 100000)
def PO (r:aB):Int:=if r.Rates.length <= 100 then (if vC (fun i=>SM r (el r.Rates i)) r.Rates.length = true then (if r.Halts.length <= 20 then (if vC (fun i=>O9 r (el r.Halts i)) r.Halts.length = true then 0 else 1) else 6) else 1) else 6
theorem SJ (n:Int) (h:M6 n):(0 <= IntKind.wrap .i64 (n - 1) ∧ IntKind.wrap .i64 (n - 1) < 1073741824) ↔ (1 <= n ∧ n <= 1073741824):=by
 unfold M6 at h
 by_cases e:n = -9223372036854775808
 ·subst e
  have:IntKind.wrap .i64 (-9223372036854775808 - 1) = 9223372036854775807:=by decide
  rw [this]; omega
 ·rw [GR (by omega) (by omega)]; omega
theorem aH6 (r:aB) (h1:r.Rates.length < 100000000000000) (h2:r.Halts.length < 100000000000000) (hw:Wl bK.wf r.Rates):pF r = some (PO r):=by
 unfold pF PO
 have l1:sD r 0 = some (if vC (fun i=>SM r (el r.Rates i)) r.Rates.length = true then .inl () else .inr ()):=by
  refine mJ? (step:=fun w=>fL r w) (fun i=>(i:Int)) _ _ _ ?_ ?_
  ·intro i hi
   have hx:=hw.2 _ (NE r.Rates i hi)
   simp only [fL,nG hi,if_true,fI _ _ hi,Option.bind_some,bC (show i < 9223372036854775807 by omega),BC,SM]
   generalize el r.Rates i = x at hx
   have a1:=SJ x.Num hx.2.2.1
   have a2:=SJ x.Den hx.2.2.2.1
   simp only [a1,a2,Bool.not_eq_true',decide_eq_false_iff_not,beq_iff_eq,decide_eq_true_eq]
   repeat (any_goals split)
   all_goals try (simp only [decide_eq_true_eq,Bool.not_eq_true,Bool.not_eq_true',decide_eq_false_iff_not,bne_iff_ne,beq_iff_eq,ne_eq,Decidable.not_not] at *)
   all_goals first | rfl | (exfalso; omega) | (rw [if_pos (by omega)]) | (rw [if_neg (by omega)]) | omega
  ·simp only [fL,pA,if_false]
 have l2:sF r 0 = some (if vC (fun i=>O9 r (el r.Halts i)) r.Halts.length = true then .inl () else .inr ()):=by
  refine mJ? (step:=fun w=>fM r w) (fun i=>(i:Int)) _ _ _ ?_ ?_
  ·intro i hi
   simp only [fM,nG hi,if_true,fI _ _ hi,Option.bind_some,bC (show i < 9223372036854775807 by omega),BC,O9]
   generalize el r.Halts i = x
   simp only [Bool.not_eq_true',decide_eq_false_iff_not,beq_iff_eq,decide_eq_true_eq]
   repeat (any_goals split)
   all_goals try (simp only [decide_eq_true_eq,Bool.not_eq_true,Bool.not_eq_true',decide_eq_false_iff_not,bne_iff_ne,beq_iff_eq,ne_eq,Decidable.not_not] at *)
   all_goals first | rfl | (exfalso; omega) | (rw [if_pos (by omega)]) | (rw [if_neg (by omega)]) | omega
  ·simp only [fM,pA,if_false]
 rw [l1,l2]
 generalize vC (fun i=>SM r (el r.Rates i)) r.Rates.length = b1
 generalize vC (fun i=>O9 r (el r.Halts i)) r.Halts.length = b2
 by_cases g1:r.Rates.length <= 100
 ·rw [decide_eq_false (show ¬ (r.Rates.length:Int) > 100 by omega),if_pos g1]
  by_cases g2:r.Halts.length <= 20
  ·rw [decide_eq_false (show ¬ (r.Halts.length:Int) > 20 by omega),if_pos g2]
   cases b1 <;> cases b2 <;> rfl
  ·rw [decide_eq_true (show (r.Halts.length:Int) > 20 by omega),if_neg g2]
   cases b1 <;> cases b2 <;> rfl
 ·rw [decide_eq_true (show (r.Rates.length:Int) > 100 by omega),if_neg g1]
  rfl
def orE (a b:Int):Int:=if a = 0 then b else a
theorem qN {a b:Int}:orE a b = 0 ↔ a = 0 ∧ b = 0:=by
 unfold orE
 by_cases h:a = 0 <;> simp [h]
def aKg (r:aB) (x:bO):Bool:=decide ((0 <= x.City ∧ x.City < r.Cities.length) ∧ 0 <= x.Group ∧ x.Group < r.Groups.length)
def aKc (r:aB):Int:=if r.Groups.length <= 20 then (if vC (fun i=>decide (0 <= (el r.Groups i).Grade ∧ (el r.Groups i).Grade < 10)) r.Groups.length = true then 0 else 1) else 6
def aFT (r:aB):Int:=D8 r.Currencies 8 (fun _=>true)
def aFS (r:aB):Int:=D8 (r.Cities.map (·.Name)) 40 (fun i=>QF r (el r.Cities i))
def aEc (r:aB):Int:=D8 (r.Firms.map (·.Name)) 200 (fun i=>aKg r (el r.Firms i))
def aAZ (r:aB):Int:=D8 (r.Orders.map (·.Name)) 20 (fun i=>wW (el r.Orders i))
def LL (r:aB):Int:=orE (aFT r) (orE (aFS r) (orE (aKc r) (orE (aEc r) (orE (aAZ r) (orE (aHz r) (PO r))))))
theorem aDg (r:aB) (f:aK3 r) (w:aB.wf r):gN r = some (LL r):=by
 obtain ⟨w1,w2,w3,w4,w5,w6,w7,w8⟩:=w
 have hcl:(r.Cities.map (·.Name)).length = r.Cities.length:=by simp
 have hfl:(r.Firms.map (·.Name)).length = r.Firms.length:=by simp
 have hol:(r.Orders.map (·.Name)).length = r.Orders.length:=by simp
 have a1:kK r.Currencies 8 = some (aFT r):=by
  unfold kK
  exact O0 r.Currencies (by have:=f.cur; omega) 8 (fun w=>jP r.Currencies w) oG (fun p=>rfl) (fun _=>true) (fun i hi=>rfl)
 have a2:kG (r.Cities.map (·.Name)) 40 r = some (aFS r):=by
  unfold kG
  refine O0 (r.Cities.map (·.Name)) (by have:=f.cit; omega) 40 (fun w=>jM (r.Cities.map (·.Name)) r w) (fun p=>hY p r) (fun p=>rfl) _ (fun i hi=>?_)
  rw [hcl] at hi
  obtain ⟨q1,q2,q3⟩:=f.cityL i hi
  simp only [hY,fI _ _ hi,Option.bind_some,aIE r (el r.Cities i) (by omega) (by omega) (by omega)]
 have a3:kN (r.Firms.map (·.Name)) 200 r = some (aEc r):=by
  unfold kN
  refine O0 (r.Firms.map (·.Name)) (by have:=f.frm; omega) 200 (fun w=>jN (r.Firms.map (·.Name)) r w) (fun p=>fV p r) (fun p=>rfl) _ (fun i hi=>?_)
  rw [hfl] at hi
  simp only [fV,fI _ _ hi,Option.bind_some,BC,decide_eq_true_eq,aKg]
  by_cases g:0 <= (el r.Firms i).City ∧ (el r.Firms i).City < r.Cities.length <;> simp [g]
 have a4:kI (r.Orders.map (·.Name)) 20 r = some (aAZ r):=by
  unfold kI
  refine O0 (r.Orders.map (·.Name)) (by have:=f.ord; omega) 20 (fun w=>jL (r.Orders.map (·.Name)) r w) (fun p=>hJ p r) (fun p=>rfl) _ (fun i hi=>?_)
  rw [hol] at hi
  obtain ⟨q1,q2⟩:=f.orderL i hi
  simp only [hJ,fI _ _ hi,Option.bind_some,aGl (el r.Orders i) (by omega) (by omega)]
 have a5:∀ z,qT r z 0 = some (if vC (fun i=>decide (0 <= (el r.Groups i).Grade ∧ (el r.Groups i).Grade < 10)) r.Groups.length = true then .inl () else .inr ()):=by
  intro z
  refine mJ? (step:=fun w=>eR r z w) (fun i=>(i:Int)) _ _ _ ?_ ?_
  ·intro i hi
   have:=f.grp
   simp only [eR,nG hi,if_true,fI _ _ hi,Option.bind_some,bC (show i < 9223372036854775807 by omega),BC]
   generalize decide (0 <= (el r.Groups i).Grade ∧ (el r.Groups i).Grade < 10) = b
   cases b <;> rfl
  ·simp only [eR,pA,if_false]
 unfold gN LL
 simp only [WG r f,Option.bind_some,a1,a2,a3,a4,a5,YI r f.usa,aH6 r f.rat f.hal w7]
 generalize aFT r = e1
 generalize aFS r = e2
 generalize aEc r = e3
 generalize aAZ r = e4
 generalize aHz r = e5
 generalize PO r = e6
 unfold aKc
 generalize vC _ _ = b
 unfold orE
 by_cases z1:e1 = 0
 ·by_cases z2:e2 = 0
  ·by_cases gg:r.Groups.length <= 20
   ·have gg' : ¬ (r.Groups.length:Int) > 20:=by omega
    cases b with
    | false=>simp [z1,z2,gg,gg']
    | true =>
     by_cases z3:e3 = 0
     ·by_cases z4:e4 = 0
      ·by_cases z5:e5 = 0 <;> simp [z1,z2,gg,gg',z3,z4,z5]
      ·simp [z1,z2,gg,gg',z3,z4]
     ·simp [z1,z2,gg,gg',z3]
   ·have gg' : (r.Groups.length:Int) > 20:=by omega
    simp [z1,z2,gg,gg']
  ·simp [z1,z2]
 ·simp [z1]
theorem XN (r:aB) (f:NK r) (w:aB.wf r):gN r = some (LL r):=aDg r f.big w
end Go.Proofs.Ytjjcaapdaldedaa
