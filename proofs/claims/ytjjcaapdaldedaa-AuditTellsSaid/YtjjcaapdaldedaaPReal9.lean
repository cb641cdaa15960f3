/- What realm.Check answers, exactly; and that the reference of layer 9 answers the same. -/
import Derived.Test.YtjjcaapdaldedaaPRealm
import Derived.Test.YtjjcaapdaldedaaVmG
set_option linter.unusedVariables false
set_option linter.unusedSimpArgs false
namespace Go.Proofs.Ytjjcaapdaldedaa
open Go.RowKit Vm
def L4 (x:Int):Bool:=(decide (97 <= x) && decide (x <= 122)) || (decide (65 <= x) && decide (x <= 90))
def aEy (x:Int):Bool:=x == 95 || (decide (48 <= x) && decide (x <= 57))
def VK (s:ByteArray) (i:Nat):Bool:=L4 (el (jL s) i) || (i != 0 && aEy (el (jL s) i))
def WF (s:ByteArray):Bool:=decide (1 <= s.size) && (decide (s.size <= 20) && eK (fun i=>if VK s i = true then none else some false) true 0 s.size)
theorem N5 (s:ByteArray):(jL s).length = s.size:=by simp [jL]
theorem ZS (s:ByteArray) (i:Nat) (x:Int) (b:Bool):fI s i x b = some (if (b || (i != 0 && aEy x)) = true then .inl () else .inr ()):=by
 unfold fI aEy
 cases b with
 | true=>simp
 | false =>
  by_cases h0:i = 0
  ·simp [h0]
  ·by_cases h1:x = 95
   ·simp [h0,h1]
   ·by_cases h2:x < 48
    ·have:¬ 48 <= x:=by omega
     simp [h0,h1,h2,this]
    ·by_cases h3:x > 57
     ·have:¬ x <= 57:=by omega
      simp [h0,h1,h2,h3,this]
     ·have e1:48 <= x:=by omega
      have e2:x <= 57:=by omega
      simp [h0,h1,h2,h3,e1,e2]
theorem VU {α:Type} (p:Nat->Bool) (a b:α) (m:Nat):∀ k:Nat,Sum.elim (fun _=>some a) (fun _=>some b) (eK (fun i=>if p i = true then none else some (Sum.inr ())) (Sum.inl ():Unit ⊕ Unit) k m) = some (eK (fun i=>if p i = true then none else some b) a k m):=by
 induction m with
 | zero=>intro k; rfl
 | succ m ih =>
  intro k
  simp only [eK]
  by_cases h:p k = true
  ·simp only [if_pos h]; exact ih (k + 1)
  ·simp only [if_neg h]; rfl
theorem aFy (s:ByteArray):oK s = some (WF s):=by
 unfold oK WF
 by_cases h0:s.size = 0
 ·have:s = ByteArray.empty:=ByteArray.size_eq_zero_iff.1 h0
  subst this
  simp
 ·have e0:(s.toList == ByteArray.empty.toList) = false:=by
   cases h:s.toList == ByteArray.empty.toList with
   | false=>rfl
   | true =>
    have h1:s.toList = ByteArray.empty.toList:=by simpa using h
    rw [ByteArray.toList_eq,ByteArray.toList_eq] at h1
    have h2:s.data.toList.length = 0:=by rw [h1]; rfl
    exact absurd (show s.size = 0 by simpa using h2) h0
  rw [e0]
  simp only [Bool.false_eq_true,if_false]
  by_cases h1:(s.size:Int) > 20
  ·have:¬ s.size <= 20:=by omega
   simp [h1,this]
  ·have e1:s.size <= 20:=by omega
   have e2:1 <= s.size:=by omega
   have hloop:rU s 0 = some (eK (fun i=>if VK s i = true then none else some (Sum.inr ())) (Sum.inl ()) 0 s.size):=by
    refine DU (step:=fun w=>eF s w) (fun i=>(i:Int)) _ _ _ ?_ ?_
    ·intro i hi
     have hi' : i < (jL s).length:=by rw [N5]; exact hi
     simp only [eF,hZ hi',if_true,bQ _ _ hi',Option.bind_some,ZS,aS (show i < 9223372036854775807 by omega)]
     unfold VK L4
     generalize el (jL s) i = x
     by_cases a1:97 <= x <;> by_cases a2:x <= 122 <;> by_cases a3:65 <= x <;> by_cases a4:x <= 90 <;> simp [a1,a2,a3,a4] <;> split <;> simp_all
    ·simp only [eF,← N5,jG,if_false]
   rw [hloop]
   simp only [Option.bind_some,VU]
   simp [e1,e2,h1]
theorem aHn (s:ByteArray) (i:Nat) (h:i < s.size):sAt s (i:Int) = some (el (jL s) i):=by
 have hl:i < (jL s).length:=by rw [N5]; exact h
 rw [oO _ _ hl]
 simp only [sAt,jL,List.getElem_map]
 rw [if_pos (by omega),Int.toNat_natCast,getElem?_pos s i h]
 rfl
theorem aGz (x:Int):jU x = some (L4 x):=by
 unfold jU L4
 by_cases a1:97 <= x <;> by_cases a2:x <= 122 <;> by_cases a3:65 <= x <;> simp [a1,a2,a3]
theorem aKN (s:ByteArray):mB s = some (WF s):=by
 unfold mB WF
 by_cases h0:(s.size:Int) < 1
 ·have:s.size = 0:=by omega
  simp [this]
 ·by_cases h1:(s.size:Int) > 20
  ·have:¬ s.size <= 20:=by omega
   simp [h0,h1,this]
  ·have e1:s.size <= 20:=by omega
   have e2:1 <= s.size:=by omega
   have hloop:o9 s 0 = some (eK (fun i=>if VK s i = true then none else some (Sum.inr ())) (Sum.inl ()) 0 s.size):=by
    refine DU (step:=fun w=>fE s w) (fun i=>(i:Int)) _ _ _ ?_ ?_
    ·intro i hi
     have hj:∀ b,gU s i b = some (if (L4 (el (jL s) i) || (i != 0 && b)) = true then .inl () else .inr ()):=by
      intro b
      unfold gU
      simp only [aHn s i hi,Option.bind_some,aGz]
      cases L4 (el (jL s) i) <;> cases b <;> by_cases h:i = 0 <;> simp [h]
     simp only [fE,hZ hi,if_true,aHn s i hi,Option.bind_some,hj,aS (show i < 9223372036854775807 by omega)]
     unfold VK aEy
     generalize el (jL s) i = x
     by_cases a1:x = 95
     ·simp [a1]; split <;> simp_all
     ·by_cases a2:48 <= x <;> by_cases a3:x <= 57 <;> simp [a1,a2,a3] <;> split <;> simp_all
    ·simp only [fE,jG,if_false]
   rw [hloop]
   simp only [Option.bind_some,VU]
   simp [e1,e2,h1,h0]
theorem aNN (a b:ByteArray):(a.toList == b.toList) = decide (a = b):=by
 by_cases h:a = b
 ·subst h; simp
 ·rw [decide_eq_false h]
  cases e:a.toList == b.toList with
  | false=>rfl
  | true =>
   have e:a.toList = b.toList:=by simpa using e
   rw [ByteArray.toList_eq,ByteArray.toList_eq] at e
   exact absurd (ByteArray.ext (Array.ext' e)) h
def BW (l:List ByteArray) (x:ByteArray) (n:Nat):Bool:=eK (fun j=>if el l j = x then some true else none) false 0 n
def vT (l:List ByteArray) (i:Nat):Int:=if WF (el l i) = true then (if BW l (el l i) i = true then 5 else 0) else 2
theorem aHF (l:List ByteArray) (x:ByteArray) (hl:l.length < 9223372036854775807):bX l x = some (eK (fun j=>if el l j = x then some (j:Int) else none) (-1) 0 l.length):=by
 unfold bX
 have hloop:fK l x 0 = some (eK (fun j=>if el l j = x then some (Sum.inr (j:Int)) else none) (Sum.inl ()) 0 l.length):=by
  refine DU (step:=fun w=>bA l x w) (fun i=>(i:Int)) _ _ _ ?_ ?_
  ·intro i hi
   simp only [bA,hZ hi,if_true,bQ _ _ hi,Option.bind_some,aS (show i < 9223372036854775807 by omega),aNN,decide_eq_true_eq]
   by_cases h:x = el l i
   ·rw [if_pos h,if_pos h.symm]
   ·rw [if_neg h,if_neg (fun q=>h q.symm)]
  ·simp only [bA,jG,if_false]
 rw [hloop]
 simp only [Option.bind_some]
 have key:∀ (m k:Nat),Sum.elim (fun _=>some (-1:Int)) (fun z=>some z) (eK (fun j=>if el l j = x then some (Sum.inr (j:Int)) else none) (Sum.inl ():Unit ⊕ Int) k m) = some (eK (fun j=>if el l j = x then some (j:Int) else none) (-1) k m):=by
  intro m
  induction m with
  | zero=>intro k; rfl
  | succ m ih =>
   intro k
   simp only [eK]
   by_cases h:el l k = x
   ·simp only [if_pos h]; rfl
   ·simp only [if_neg h]; exact ih (k + 1)
 exact key _ 0
theorem ZB (l:List ByteArray) (x:ByteArray) (hl:l.length < 9223372036854775807):bP l x = some (BW l x l.length):=by
 unfold bP
 rw [aHF l x hl]
 simp only [Option.bind_some,Option.some.injEq]
 unfold BW
 have key:∀ (m k:Nat),decide (eK (fun j=>if el l j = x then some (j:Int) else none) (-1) k m ≥ 0) = eK (fun j=>if el l j = x then some true else none) false k m:=by
  intro m
  induction m with
  | zero=>intro k; rfl
  | succ m ih =>
   intro k
   simp only [eK]
   by_cases h:el l k = x
   ·simp only [if_pos h]; simp
   ·simp only [if_neg h]; exact ih (k + 1)
 exact key _ 0
theorem aIC (l:List ByteArray) (i:Nat) (hi:i < l.length) (hl:l.length < 9223372036854775807):iN l i = some (vT l i):=by
 unfold iN vT
 rw [bQ l i hi]
 simp only [Option.bind_some,aFy]
 cases WF (el l i) with
 | false=>rfl
 | true =>
  have hsl:(n7 l 0 (i:Int)).length = i:=by simp [n7]; omega
  rw [if_pos (show B6 l.length 0 i from ⟨Int.le_refl _,by omega,by omega⟩),ZB _ _ (by omega),hsl]
  have:BW (n7 l 0 (i:Int)) (el l i) i = BW l (el l i) i:=by
   unfold BW
   refine II _ _ (fun j h1 h2=>?_) rfl
   have:el (n7 l 0 (i:Int)) j = el l j:=by
    rw [oO _ _ (by omega),oO _ _ (by omega)]
    simp [n7]
   rw [this]
  rw [this]
  simp only [Option.bind_some,Bool.not_true,Bool.false_eq_true,if_false,if_true]
  cases BW l (el l i) i <;> rfl
theorem aFr (l:List ByteArray) (i:Nat) (x:ByteArray) (hi:i <= l.length) (hl:l.length < 9223372036854775807):jQ l i x = some (BW l x i):=by
 unfold jQ
 have hloop:m0 l i x 0 = some (eK (fun j=>if el l j = x then some (Sum.inr ()) else none) (Sum.inl ()) 0 i):=by
  refine DU (step:=fun w=>d9 l i x w) (fun i=>(i:Int)) _ _ _ ?_ ?_
  ·intro j hj
   have hj' : j < l.length:=by omega
   simp only [d9,hZ hj,hZ hj',if_true,bQ _ _ hj',Option.bind_some,aS (show j < 9223372036854775807 by omega),aNN,decide_eq_true_eq]
   by_cases h:el l j = x
   ·rw [if_pos h,if_pos h]
   ·rw [if_neg h,if_neg h]
  ·simp only [d9,jG,if_false]
 rw [hloop]
 simp only [Option.bind_some]
 unfold BW
 have key:∀ (m k:Nat),Sum.elim (fun _=>some false) (fun _=>some true) (eK (fun j=>if el l j = x then some (Sum.inr ()) else none) (Sum.inl ():Unit ⊕ Unit) k m) = some (eK (fun j=>if el l j = x then some true else none) false k m):=by
  intro m
  induction m with
  | zero=>intro k; rfl
  | succ m ih =>
   intro k
   simp only [eK]
   by_cases h:el l k = x
   ·simp only [if_pos h]; rfl
   ·simp only [if_neg h]; exact ih (k + 1)
 exact key _ 0
theorem P4 (l:List ByteArray) (i:Nat) (hi:i < l.length) (hl:l.length < 9223372036854775807):cZ l i = some (vT l i):=by
 unfold cZ vT
 rw [bQ l i hi]
 simp only [Option.bind_some,aKN,aFr l i _ (by omega:i <= l.length) hl]
 cases WF (el l i) with
 | false=>rfl
 | true=>cases BW l (el l i) i <;> rfl
def CB (l:List Int) (lo hi:Int):Bool:=j7 (fun i=>decide (lo <= el l i ∧ el l i <= hi ∧ (0 < i->el l (i - 1) < el l i))) l.length
theorem HA (l:List Int) (lo hi:Int) (hl:l.length < 9223372036854775807):iI l lo hi = some (CB l lo hi):=by
 unfold iI CB
 have hloop:rR l lo hi 0 = some (if j7 (fun i=>decide (lo <= el l i ∧ el l i <= hi ∧ (0 < i->el l (i - 1) < el l i))) l.length = true then .inl () else .inr ()):=by
  refine g8? (step:=fun w=>eE l lo hi w) (fun i=>(i:Int)) l.length _ _ ?_ ?_
  ·intro i hi'
   simp only [eE,hZ hi',if_true,bQ _ _ hi',Option.bind_some,aS (show i < 9223372036854775807 by omega)]
   by_cases h3:0 < i
   ·have e1:IntKind.wrap .i64 ((i:Int) - 1) = ((i - 1:Nat):Int):=by rw [iA (by omega) (by omega)]; omega
    rw [e1,bQ l (i - 1) (by omega)]
    simp only [Option.bind_some,decide_eq_true_eq]
    repeat (any_goals split)
    all_goals try (simp only [decide_eq_true_eq,Bool.not_eq_true,Bool.not_eq_true',decide_eq_false_iff_not,bne_iff_ne,beq_iff_eq,ne_eq,Decidable.not_not] at *)
    all_goals first | rfl | (exfalso; omega) | (rw [if_pos (by omega)]) | (rw [if_neg (by omega)]) | omega
   ·simp only [decide_eq_true_eq]
    repeat (any_goals split)
    all_goals try (simp only [decide_eq_true_eq,Bool.not_eq_true,Bool.not_eq_true',decide_eq_false_iff_not,bne_iff_ne,beq_iff_eq,ne_eq,Decidable.not_not] at *)
    all_goals first | rfl | (exfalso; omega) | (rw [if_pos (by omega)]) | (rw [if_neg (by omega)]) | omega
  ·simp only [eE,jG,if_false]
 rw [hloop]
 generalize j7 _ _ = b
 cases b <;> rfl
theorem m9 (a b c:Int):aL a b c = some (decide (b <= a ∧ a <= c)):=by
 unfold aL
 by_cases h:b <= a <;> simp [h]
theorem GJ (l:List Int) (lo hi:Int) (hl:l.length < 9223372036854775807):fT l lo hi = some (CB l lo hi):=by
 unfold fT CB
 have hloop:nO l lo hi 0 = some (if j7 (fun i=>decide (lo <= el l i ∧ el l i <= hi ∧ (0 < i->el l (i - 1) < el l i))) l.length = true then .inl () else .inr ()):=by
  refine g8? (step:=fun w=>eA l lo hi w) (fun i=>(i:Int)) l.length _ _ ?_ ?_
  ·intro i hi'
   simp only [eA,hZ hi',if_true,bQ _ _ hi',Option.bind_some,m9,aS (show i < 9223372036854775807 by omega)]
   by_cases h3:0 < i
   ·have e1:IntKind.wrap .i64 ((i:Int) - 1) = ((i - 1:Nat):Int):=by rw [iA (by omega) (by omega)]; omega
    rw [e1,bQ l (i - 1) (by omega)]
    simp only [Option.bind_some,decide_eq_true_eq]
    repeat (any_goals split)
    all_goals try (simp only [decide_eq_true_eq,Bool.not_eq_true,Bool.not_eq_true',decide_eq_false_iff_not,bne_iff_ne,beq_iff_eq,ne_eq,Decidable.not_not] at *)
    all_goals first | rfl | (exfalso; omega) | (rw [if_pos (by omega)]) | (rw [if_neg (by omega)]) | omega
   ·simp only [decide_eq_true_eq]
    repeat (any_goals split)
    all_goals try (simp only [decide_eq_true_eq,Bool.not_eq_true,Bool.not_eq_true',decide_eq_false_iff_not,bne_iff_ne,beq_iff_eq,ne_eq,Decidable.not_not] at *)
    all_goals first | rfl | (exfalso; omega) | (rw [if_pos (by omega)]) | (rw [if_neg (by omega)]) | omega
  ·simp only [eA,jG,if_false]
 rw [hloop]
 generalize j7 _ _ = b
 cases b <;> rfl
def S8 (r:aA) (c:a7):Bool :=
 j7 (fun i=>decide (1 <= (el c.Feasts i).tmod 100 ∧ (el c.Feasts i).tmod 100 <= 31)) c.Feasts.length && (decide (c.Feasts.length <= 60) && (decide (c.Shut.length <= 200) && (decide (0 <= c.Order ∧ c.Order < r.Orders.length) && (decide (0 <= c.Currency ∧ c.Currency < r.Currencies.length) && (CB c.Rest 0 6 && (CB c.Feasts 101 1231 && CB c.Shut 0 100000))))))
theorem aLn (r:aA) (c:a7) (h1:c.Feasts.length < 9223372036854775807) (h2:c.Rest.length < 9223372036854775807) (h3:c.Shut.length < 9223372036854775807):sK r c = some (S8 r c):=by
 unfold sK S8
 have hloop:vE r c 0 = some (if j7 (fun i=>decide (1 <= (el c.Feasts i).tmod 100 ∧ (el c.Feasts i).tmod 100 <= 31)) c.Feasts.length = true then .inl () else .inr ()):=by
  refine g8? (step:=fun w=>gM r c w) (fun i=>(i:Int)) _ _ _ ?_ ?_
  ·intro i hi'
   simp only [gM,hZ hi',if_true,bQ _ _ hi',Option.bind_some,aS (show i < 9223372036854775807 by omega),decide_eq_true_eq]
   repeat (any_goals split)
   all_goals try (simp only [decide_eq_true_eq,Bool.not_eq_true,Bool.not_eq_true',decide_eq_false_iff_not,bne_iff_ne,beq_iff_eq,ne_eq,Decidable.not_not] at *)
   all_goals first | rfl | (exfalso; omega) | (rw [if_pos (by omega)]) | (rw [if_neg (by omega)]) | omega
  ·simp only [gM,jG,if_false]
 rw [hloop]
 simp only [EF,HA _ _ _ h1,HA _ _ _ h2,HA _ _ _ h3,Option.bind_some,decide_eq_true_eq]
 generalize j7 _ _ = b
 cases b with
 | false=>rfl
 | true =>
  simp only [if_true,Sum.elim_inl,Bool.true_and]
  by_cases g1:(c.Feasts.length:Int) > 60
  ·rw [if_pos g1,decide_eq_false (by omega)]; rfl
  rw [if_neg g1,decide_eq_true (show c.Feasts.length <= 60 by omega)]
  by_cases g2:(c.Shut.length:Int) > 200
  ·rw [if_pos g2,decide_eq_false (by omega)]; rfl
  rw [if_neg g2,decide_eq_true (show c.Shut.length <= 200 by omega)]
  generalize decide (0 <= c.Order ∧ c.Order < r.Orders.length) = b1
  generalize decide (0 <= c.Currency ∧ c.Currency < r.Currencies.length) = b2
  generalize CB c.Rest 0 6 = b3
  generalize CB c.Feasts 101 1231 = b4
  generalize CB c.Shut 0 100000 = b5
  cases b1 <;> cases b2 <;> cases b3 <;> cases b4 <;> rfl
theorem aNQ (x:Int):(0 <= x->x.tmod 100 = x % 100 ∧ x.tdiv 100 = x / 100) ∧ (x < 0->x.tmod 100 <= 0):=by
 refine ⟨fun h=>⟨Int.tmod_eq_emod_of_nonneg h,Int.tdiv_eq_ediv_of_nonneg h⟩,fun h=>?_⟩
 obtain ⟨y,rfl⟩ : ∃ y,x = -y:=⟨-x,by omega⟩
 rw [Int.neg_tmod]
 have:=Int.tmod_nonneg (a:=y) 100 (by omega)
 omega
theorem aMw (x:Int):(0 <= x->0 <= x.tdiv 100 ∧ x.tdiv 100 <= x) ∧ (x < 0->x <= x.tdiv 100 ∧ x.tdiv 100 <= 0):=by
 constructor
 ·intro h
  rw [Int.tdiv_eq_ediv_of_nonneg h]; omega
 ·intro h
  obtain ⟨y,rfl⟩ : ∃ y,x = -y:=⟨-x,by omega⟩
  rw [Int.neg_tdiv,Int.tdiv_eq_ediv_of_nonneg (by omega)]; omega
theorem aCE (l:List Int) (hw:Wl K9 l) (h:j7 (fun i=>decide (1 <= (el l i).tmod 100 ∧ (el l i).tmod 100 <= 31)) l.length = true) :
  CB l 101 1231 = (j7 (fun i=>decide (1 <= (el l i).tdiv 100 ∧ (el l i).tdiv 100 <= 12)) l.length && CB l 0 2000):=by
 rw [uZ] at h
 rw [Bool.eq_iff_iff,Bool.and_eq_true]
 unfold CB
 simp only [uZ,decide_eq_true_eq] at h ⊢
 constructor
 ·intro q
  exact ⟨fun i hi=>by have:=(q i hi).1; have:=(q i hi).2.1; have:=aNQ (el l i); omega,fun i hi=>by have a1:=(q i hi).1; have a2:=(q i hi).2.1; exact ⟨by omega,by omega,(q i hi).2.2⟩⟩
 ·rintro ⟨q1,q2⟩ i hi
  have a1:=q1 i hi
  have a2:=(q2 i hi).1
  have a4:=(q2 i hi).2.1
  have a3:=h i hi
  have:=aNQ (el l i)
  exact ⟨by omega,by omega,(q2 i hi).2.2⟩
theorem aQN {P:Int->Prop} {l:List Int} (w:Wl P l) (i:Nat) (hi:i < l.length):P (el l i):=w.2 _ (JG l i hi)
theorem aBL (r:aA) (c:a7) (h1:c.Feasts.length < 9223372036854775807) (h2:c.Rest.length < 9223372036854775807) (h3:c.Shut.length < 9223372036854775807) (h4:r.Orders.length < 9223372036854775807) (h5:r.Currencies.length < 9223372036854775807) (hw:Wl K9 c.Feasts):hY r c = some (S8 r c):=by
 unfold hY S8
 have hloop:kT c 0 = some (if j7 (fun i=>decide (1 <= (el c.Feasts i).tmod 100 ∧ (el c.Feasts i).tmod 100 <= 31) && decide (1 <= (el c.Feasts i).tdiv 100 ∧ (el c.Feasts i).tdiv 100 <= 12)) c.Feasts.length = true then .inl () else .inr ()):=by
  refine g8? (step:=fun w=>cU c w) (fun i=>(i:Int)) _ _ _ ?_ ?_
  ·intro i hi'
   have hb:=aQN hw i hi'
   have e1:IntKind.wrap .i64 ((el c.Feasts i).tdiv 100) = (el c.Feasts i).tdiv 100:=by
    unfold K9 at hb
    have:=aMw (el c.Feasts i)
    rw [iA (by omega) (by omega)]
   simp only [cU,hZ hi',if_true,bQ _ _ hi',Option.bind_some,aS (show i < 9223372036854775807 by omega),m9,e1]
   cases decide (1 <= (el c.Feasts i).tmod 100 ∧ (el c.Feasts i).tmod 100 <= 31) <;> cases decide (1 <= (el c.Feasts i).tdiv 100 ∧ (el c.Feasts i).tdiv 100 <= 12) <;> rfl
  ·simp only [cU,jG,if_false]
 rw [hloop]
 rw [iA (by omega) (by omega),iA (by omega) (by omega)]
 simp only [m9,GJ _ _ _ h1,GJ _ _ _ h2,GJ _ _ _ h3,Option.bind_some,decide_eq_true_eq]
 have ea:j7 (fun i=>decide (1 <= (el c.Feasts i).tmod 100 ∧ (el c.Feasts i).tmod 100 <= 31) && decide (1 <= (el c.Feasts i).tdiv 100 ∧ (el c.Feasts i).tdiv 100 <= 12)) c.Feasts.length = (j7 (fun i=>decide (1 <= (el c.Feasts i).tmod 100 ∧ (el c.Feasts i).tmod 100 <= 31)) c.Feasts.length && j7 (fun i=>decide (1 <= (el c.Feasts i).tdiv 100 ∧ (el c.Feasts i).tdiv 100 <= 12)) c.Feasts.length):=aAy _ _ _
 rw [ea]
 have hf:=aCE c.Feasts hw
 have eo:decide (0 <= c.Order ∧ c.Order <= (r.Orders.length:Int) - 1) = decide (0 <= c.Order ∧ c.Order < r.Orders.length):=by rw [decide_eq_decide]; omega
 have ec:decide (0 <= c.Currency ∧ c.Currency <= (r.Currencies.length:Int) - 1) = decide (0 <= c.Currency ∧ c.Currency < r.Currencies.length):=by rw [decide_eq_decide]; omega
 rw [eo,ec]
 generalize j7 (fun i=>decide (1 <= (el c.Feasts i).tmod 100 ∧ (el c.Feasts i).tmod 100 <= 31)) c.Feasts.length = b at hf
 generalize j7 (fun i=>decide (1 <= (el c.Feasts i).tdiv 100 ∧ (el c.Feasts i).tdiv 100 <= 12)) c.Feasts.length = b' at hf
 generalize decide (0 <= c.Order ∧ c.Order < r.Orders.length) = b1
 generalize decide (0 <= c.Currency ∧ c.Currency < r.Currencies.length) = b2
 by_cases g1:(c.Feasts.length:Int) > 60
 ·rw [if_pos g1,decide_eq_false (show ¬ c.Feasts.length <= 60 by omega)]
  cases b1 <;> cases b2 <;> cases b <;> rfl
 rw [if_neg g1,decide_eq_true (show c.Feasts.length <= 60 by omega)]
 by_cases g2:(c.Shut.length:Int) > 200
 ·rw [if_pos g2,decide_eq_false (show ¬ c.Shut.length <= 200 by omega)]
  cases b1 <;> cases b2 <;> cases b <;> rfl
 rw [if_neg g2,decide_eq_true (show c.Shut.length <= 200 by omega)]
 cases b with
 | false=>cases b1 <;> cases b2 <;> rfl
 | true =>
  rw [hf rfl]
  generalize CB c.Rest 0 6 = b3
  generalize CB c.Feasts 0 2000 = b4
  generalize CB c.Shut 0 100000 = b5
  cases b1 <;> cases b2 <;> cases b' <;> cases b3 <;> cases b4 <;> rfl
def KP (o:aG):Bool:=j7 (fun i=>decide (0 <= (el o.Choices i).By ∧ (el o.Choices i).By < 5)) o.Choices.length && (CB (o.Choices.map (·.Ask)) 0 21 && CB (o.Rules.map (·.Ask)) 0 21)
theorem PE {α β:Type} [Inhabited α] [Inhabited β] (f:α->β) (l:List α) (i:Nat) (h:i < l.length):el (l.map f) i = f (el l i):=by
 rw [oO _ _ (by simpa using h),oO _ _ h]; simp
theorem DK {α:Type} [Inhabited α] (l:List α) (i:Nat) (h:i < l.length):l.take i ++ [el l i] = l.take (i + 1):=by
 rw [oO l i h,List.take_append_getElem h]
theorem aKk (o:aG) (h1:o.Choices.length < 6000000000000) (h2:o.Rules.length < 6000000000000):qD o = some (KP o):=by
 unfold qD KP
 have l1:tN o 0 [] = some (if j7 (fun i=>decide (0 <= (el o.Choices i).By ∧ (el o.Choices i).By < 5)) o.Choices.length = true then .inl (o.Choices.map (·.Ask)) else .inr ()):=by
  have:=g8? (step:=fun w=>fM o w.1 w.2) (fun i=>((i:Int),(o.Choices.take i).map (·.Ask))) o.Choices.length (fun i=>decide (0 <= (el o.Choices i).By ∧ (el o.Choices i).By < 5)) (o.Choices.map (·.Ask)) ?_ ?_
  ·exact this
  ·intro i hi
   have hlen:((o.Choices.take i).map (·.Ask)).length = i:=by simp; omega
   simp only [fM,hZ hi,if_true,bQ _ _ hi,Option.bind_some,aS (show i < 9223372036854775807 by omega),EF,hlen]
   rw [if_pos (by omega)]
   have:(o.Choices.take i).map (·.Ask) ++ [(el o.Choices i).Ask] = (o.Choices.take (i + 1)).map (·.Ask):=by rw [← DK _ _ hi]; simp
   rw [this]
   generalize decide (0 <= (el o.Choices i).By ∧ (el o.Choices i).By < 5) = b
   cases b <;> rfl
  ·simp only [fM,jG,if_false]
   simp
 have l2:∀ z,tM o z 0 [] = some (o.Rules.map (·.Ask)):=by
  intro z
  have:=g8 (step:=fun w=>fN o z w.1 w.2) (fun i=>((i:Int),(o.Rules.take i).map (·.Ask))) o.Rules.length (o.Rules.map (·.Ask)) ?_ ?_
  ·exact this
  ·intro i hi
   have hlen:((o.Rules.take i).map (·.Ask)).length = i:=by simp; omega
   simp only [fN,hZ hi,if_true,bQ _ _ hi,Option.bind_some,aS (show i < 9223372036854775807 by omega),hlen]
   rw [if_pos (by omega)]
   have:(o.Rules.take i).map (·.Ask) ++ [(el o.Rules i).Ask] = (o.Rules.take (i + 1)).map (·.Ask):=by rw [← DK _ _ hi]; simp
   rw [this]
  ·simp only [fN,jG,if_false]
   simp
 rw [l1]
 generalize j7 _ _ = b
 cases b with
 | false=>rfl
 | true =>
  simp only [if_true,Option.bind_some,Sum.elim_inl,l2]
  rw [HA _ _ _ (by simp; omega),HA _ _ _ (by simp; omega)]
  generalize CB (o.Choices.map (·.Ask)) 0 21 = b1
  generalize CB (o.Rules.map (·.Ask)) 0 21 = b2
  cases b1 <;> cases b2 <;> rfl
theorem ZW (o:aG) (h1:o.Choices.length < 6000000000000) (h2:o.Rules.length < 6000000000000):gP o = some (KP o):=by
 unfold gP KP
 have l1:jW o 0 = some (if j7 (fun i=>decide ((0 <= (el o.Choices i).By ∧ (el o.Choices i).By < 5) ∧ 0 <= (el o.Choices i).Ask ∧ (el o.Choices i).Ask <= 21 ∧ (0 < i->(el o.Choices (i - 1)).Ask < (el o.Choices i).Ask))) o.Choices.length = true then .inl () else .inr ()):=by
  refine g8? (step:=fun w=>cE o w) (fun i=>(i:Int)) _ _ _ ?_ ?_
  ·intro i hi'
   simp only [cE,hZ hi',if_true,bQ _ _ hi',Option.bind_some,m9,aS (show i < 9223372036854775807 by omega)]
   by_cases h3:0 < i
   ·have e1:IntKind.wrap .i64 ((i:Int) - 1) = ((i - 1:Nat):Int):=by rw [iA (by omega) (by omega)]; omega
    rw [e1,bQ o.Choices (i - 1) (by omega)]
    simp only [Option.bind_some,decide_eq_true_eq]
    repeat (any_goals split)
    all_goals try (simp only [decide_eq_true_eq,Bool.not_eq_true,Bool.not_eq_true',decide_eq_false_iff_not,bne_iff_ne,beq_iff_eq,ne_eq,Decidable.not_not] at *)
    all_goals first | rfl | (exfalso; omega) | (rw [if_pos (by omega)]) | (rw [if_neg (by omega)]) | omega
   ·simp only [decide_eq_true_eq]
    repeat (any_goals split)
    all_goals try (simp only [decide_eq_true_eq,Bool.not_eq_true,Bool.not_eq_true',decide_eq_false_iff_not,bne_iff_ne,beq_iff_eq,ne_eq,Decidable.not_not] at *)
    all_goals first | rfl | (exfalso; omega) | (rw [if_pos (by omega)]) | (rw [if_neg (by omega)]) | omega
  ·simp only [cE,jG,if_false]
 have l2:jY o 0 = some (if j7 (fun i=>decide (0 <= (el o.Rules i).Ask ∧ (el o.Rules i).Ask <= 21 ∧ (0 < i->(el o.Rules (i - 1)).Ask < (el o.Rules i).Ask))) o.Rules.length = true then .inl () else .inr ()):=by
  refine g8? (step:=fun w=>cC o w) (fun i=>(i:Int)) _ _ _ ?_ ?_
  ·intro i hi'
   simp only [cC,hZ hi',if_true,bQ _ _ hi',Option.bind_some,m9,aS (show i < 9223372036854775807 by omega)]
   by_cases h3:0 < i
   ·have e1:IntKind.wrap .i64 ((i:Int) - 1) = ((i - 1:Nat):Int):=by rw [iA (by omega) (by omega)]; omega
    rw [e1,bQ o.Rules (i - 1) (by omega)]
    simp only [Option.bind_some,decide_eq_true_eq]
    repeat (any_goals split)
    all_goals try (simp only [decide_eq_true_eq,Bool.not_eq_true,Bool.not_eq_true',decide_eq_false_iff_not,bne_iff_ne,beq_iff_eq,ne_eq,Decidable.not_not] at *)
    all_goals first | rfl | (exfalso; omega) | (rw [if_pos (by omega)]) | (rw [if_neg (by omega)]) | omega
   ·simp only [decide_eq_true_eq]
    repeat (any_goals split)
    all_goals try (simp only [decide_eq_true_eq,Bool.not_eq_true,Bool.not_eq_true',decide_eq_false_iff_not,bne_iff_ne,beq_iff_eq,ne_eq,Decidable.not_not] at *)
    all_goals first | rfl | (exfalso; omega) | (rw [if_pos (by omega)]) | (rw [if_neg (by omega)]) | omega
  ·simp only [cC,jG,if_false]
 have r1:j7 (fun i=>decide ((0 <= (el o.Choices i).By ∧ (el o.Choices i).By < 5) ∧ 0 <= (el o.Choices i).Ask ∧ (el o.Choices i).Ask <= 21 ∧ (0 < i->(el o.Choices (i - 1)).Ask < (el o.Choices i).Ask))) o.Choices.length = (j7 (fun i=>decide (0 <= (el o.Choices i).By ∧ (el o.Choices i).By < 5)) o.Choices.length && CB (o.Choices.map (·.Ask)) 0 21):=by
  unfold CB
  rw [List.length_map,← aAy]
  refine WA fun i hi=>?_
  rw [PE _ _ _ hi,← Bool.decide_and]
  by_cases h0:0 < i
  ·rw [PE _ _ _ (by omega)]
  ·rw [decide_eq_decide]; simp [h0]
 have r2:j7 (fun i=>decide (0 <= (el o.Rules i).Ask ∧ (el o.Rules i).Ask <= 21 ∧ (0 < i->(el o.Rules (i - 1)).Ask < (el o.Rules i).Ask))) o.Rules.length = CB (o.Rules.map (·.Ask)) 0 21:=by
  unfold CB
  rw [List.length_map]
  refine WA fun i hi=>?_
  rw [PE _ _ _ hi]
  by_cases h0:0 < i
  ·rw [PE _ _ _ (by omega)]
  ·rw [decide_eq_decide]; simp [h0]
 rw [l1,l2,r1,r2]
 generalize j7 _ _ = b
 generalize CB (o.Choices.map (·.Ask)) 0 21 = b1
 generalize CB (o.Rules.map (·.Ask)) 0 21 = b2
 cases b <;> cases b1 <;> cases b2 <;> rfl
def BO (l:List ByteArray) (F:Nat->Bool) (i:Nat):Int:=if vT l i = 0 then (if F i = true then 0 else 1) else vT l i
def IC (l:List ByteArray) (most:Nat) (F:Nat->Bool):Int:=if l.length <= most then WT (BO l F) l.length else 6
theorem UA {S:Type} {step:S->Option (S ⊕ (Unit ⊕ Int))} (st:Nat->S) (n:Nat) (g:Nat->Int)
  (h:∀ i,i < n->step (st i) = some (IF (st (i + 1)) (g i))) (he:step (st n) = some (.inr (.inl ()))):(b8 step (st 0)).bind (fun r=>Sum.elim (fun _=>some (0:Int)) (fun z=>some z) r) = some (WT g n):=by
 rw [B1 st n (fun i=>if g i = 0 then none else some (g i)) () (fun i hi=>by rw [h i hi]; unfold IF; by_cases e:g i = 0 <;> simp [e]) he]
 simp only [Option.bind_some,aKn ()]
 rfl
theorem T7 (l:List ByteArray) (hl:l.length < 9223372036854775807) (most:Nat) (step:Int->Option (Int ⊕ (Unit ⊕ Int))) (fine:Int->Option Bool)
  (hs:∀ p,step p = if decide (p < (l.length:Int)) = true then (iN l p).bind fun (r2:Int)=>if (r2 != 0) = true then some (.inr (.inr (r2))) else (fine p).bind fun (r3:Bool)=>if (!(r3)) = true then some (.inr (.inr (1))) else some (.inl (IntKind.wrap .i64 (p + 1))) else some (.inr (.inl ())))
  (F:Nat->Bool) (hf:∀ i,i < l.length->fine (i:Int) = some (F i)) :
  (if decide ((l.length:Int) > (most:Int)) = true then some 6 else (b8 step 0).bind fun r5=>Sum.elim (fun z6=>some (0:Int)) (fun z7=>some z7) r5) = some (IC l most F):=by
 unfold IC
 by_cases g:l.length <= most
 ·rw [if_pos g,decide_eq_false (by omega)]
  simp only [Bool.false_eq_true,if_false]
  refine UA (step:=step) (fun i=>(i:Int)) l.length _ ?_ ?_
  ·intro i hi
   rw [hs]
   simp only [hZ hi,if_true,aIC l i hi hl,hf i hi,Option.bind_some,aS (show i < 9223372036854775807 by omega),BO]
   generalize vT l i = e
   generalize F i = b
   by_cases h0:e = 0
   ·cases b <;> simp [h0,IF]
   ·simp [h0,IF]
  ·rw [hs]; simp only [jG,if_false]
 ·rw [if_neg g,decide_eq_true (by omega)]
  rfl
theorem aCT (l:List ByteArray) (x:ByteArray) (n m:Nat) (h:n <= m) (hm:m <= l.length):BW (l.take m) x n = BW l x n:=by
 unfold BW
 refine II _ _ (fun j h1 h2=>?_) rfl
 rw [oO _ _ (by simp; omega),oO _ _ (by omega)]
 simp
theorem aDk (l:List ByteArray) (i:Nat) (h:i < l.length):vT (l.take (i + 1)) i = vT l i:=by
 unfold vT
 rw [aCT l _ i (i + 1) (by omega) (by omega)]
 have:el (l.take (i + 1)) i = el l i:=by rw [oO _ _ (by simp; omega),oO _ _ h]; simp
 rw [this]
def usB (r:aA) (i k:Nat):Bool:=decide ((el r.Usances k).From = (el r.Usances i).From ∧ (el r.Usances k).To = (el r.Usances i).To)
def aId (r:aA) (i:Nat):Int:=if (0 <= (el r.Usances i).From ∧ (el r.Usances i).From < r.Cities.length) ∧ (0 <= (el r.Usances i).To ∧ (el r.Usances i).To < r.Cities.length) ∧ 1 <= (el r.Usances i).Days ∧ (el r.Usances i).Days <= 20000 then (if j7 (fun k=>!usB r i k) i = true then 0 else 5) else 1
def aCc (r:aA):Int:=if r.Usances.length <= 100 then WT (aId r) r.Usances.length else 6
theorem aCx (r:aA) (h:r.Usances.length < 100000000000000):mY r = some (aCc r):=by
 unfold mY aCc
 by_cases g:r.Usances.length <= 100
 ·rw [if_pos g,decide_eq_false (by omega)]
  simp only [Bool.false_eq_true,if_false]
  refine UA (step:=fun w=>dQ r w) (fun i=>(i:Int)) r.Usances.length _ ?_ ?_
  ·intro i hi
   have hin:pS r i (el r.Usances i) 0 = some (if j7 (fun k=>!usB r i k) i = true then .inl () else .inr ()):=by
    have hsl:(n7 r.Usances 0 (i:Int)).length = i:=by simp [n7]; omega
    refine g8? (step:=fun w=>dR r i (el r.Usances i) w) (fun k=>(k:Int)) i _ _ ?_ ?_
    ·intro k hk
     have e1:el (n7 r.Usances 0 (i:Int)) k = el r.Usances k:=by rw [oO _ _ (by omega),oO _ _ (by omega)]; simp [n7]
     simp only [dR,hsl,hZ hk,if_true,bQ (n7 r.Usances 0 (i:Int)) k (by omega),e1,Option.bind_some,aS (show k < 9223372036854775807 by omega),beq_iff_eq,usB]
     by_cases a1:(el r.Usances k).From = (el r.Usances i).From <;> by_cases a2:(el r.Usances k).To = (el r.Usances i).To <;> simp [a1,a2]
    ·simp only [dR,hsl,jG,if_false]
   simp only [dQ,hZ hi,if_true,bQ _ _ hi,Option.bind_some,aS (show i < 9223372036854775807 by omega),EF,decide_eq_true_eq,hin,aId]
   rw [if_pos (show B6 r.Usances.length 0 (i:Int) from ⟨Int.le_refl _,by omega,by omega⟩)]
   generalize j7 _ _ = b
   generalize el r.Usances i = u
   by_cases g1:0 <= u.From ∧ u.From < r.Cities.length
   ·by_cases g2:0 <= u.To ∧ u.To < r.Cities.length
    ·by_cases g3:u.Days < 1
     ·rw [if_neg (show ¬ (_ ∧ _ ∧ _ ∧ _) from fun q=>absurd q.2.2.1 (by omega))]
      simp [g1,g2,g3,IF]
     by_cases g4:u.Days > 20000
     ·rw [if_neg (show ¬ (_ ∧ _ ∧ _ ∧ _) from fun q=>absurd q.2.2.2 (by omega))]
      simp [g1,g2,g3,g4,IF]
     ·rw [if_pos (show _ ∧ _ ∧ _ ∧ _ from ⟨g1,g2,by omega,by omega⟩)]
      cases b <;> simp [g1,g2,g3,g4,IF]
    ·rw [if_neg (show ¬ (_ ∧ _ ∧ _ ∧ _) from fun q=>g2 q.2.1)]
     simp [g1,g2,IF]
   ·rw [if_neg (show ¬ (_ ∧ _ ∧ _ ∧ _) from fun q=>g1 q.1)]
    simp [g1,IF]
  ·simp only [dQ,jG,if_false]
 ·rw [if_neg g,decide_eq_true (by omega)]
  rfl
theorem UH (r:aA) (h:r.Usances.length < 100000000000000) (hc:r.Cities.length < 6000000000000):jB r = some (aCc r):=by
 unfold jB aCc
 by_cases g:r.Usances.length <= 100
 ·rw [if_pos g,decide_eq_false (by omega)]
  simp only [Bool.false_eq_true,if_false]
  refine UA (step:=fun w=>dN r w) (fun i=>(i:Int)) r.Usances.length _ ?_ ?_
  ·intro i hi
   have hin:mJ r i (el r.Usances i) 0 = some (if j7 (fun k=>!usB r i k) i = true then .inl () else .inr ()):=by
    refine g8? (step:=fun w=>dJ r i (el r.Usances i) w) (fun k=>(k:Int)) i _ _ ?_ ?_
    ·intro k hk
     simp only [dJ,hZ hk,if_true,bQ r.Usances k (by omega),Option.bind_some,aS (show k < 9223372036854775807 by omega),beq_iff_eq,usB]
     by_cases a1:(el r.Usances k).From = (el r.Usances i).From <;> by_cases a2:(el r.Usances k).To = (el r.Usances i).To <;> simp [a1,a2]
    ·simp only [dJ,jG,if_false]
   have ew:IntKind.wrap .i64 ((r.Cities.length:Int) - 1) = (r.Cities.length:Int) - 1:=iA (by omega) (by omega)
   simp only [dN,hZ hi,if_true,bQ _ _ hi,Option.bind_some,aS (show i < 9223372036854775807 by omega),m9,ew,hin,aId]
   generalize j7 _ _ = b
   generalize el r.Usances i = u
   have eu:((0 <= u.From ∧ u.From < r.Cities.length) ∧ (0 <= u.To ∧ u.To < r.Cities.length) ∧ 1 <= u.Days ∧ u.Days <= 20000) ↔ ((0 <= u.From ∧ u.From <= (r.Cities.length:Int) - 1) ∧ (0 <= u.To ∧ u.To <= (r.Cities.length:Int) - 1) ∧ 1 <= u.Days ∧ u.Days <= 20000):=by omega
   simp only [eu]
   by_cases g1:0 <= u.From ∧ u.From <= (r.Cities.length:Int) - 1
   ·by_cases g2:0 <= u.To ∧ u.To <= (r.Cities.length:Int) - 1
    ·by_cases g3:1 <= u.Days ∧ u.Days <= 20000
     ·cases b <;> simp [g1,g2,g3,IF]
     ·simp [g1,g2,g3,IF]
    ·simp [g1,g2,IF]
   ·simp [g1,IF]
  ·simp only [dN,jG,if_false]
 ·rw [if_neg g,decide_eq_true (by omega)]
  rfl
def VQ (r:aA) (x:bV):Bool:=decide ((0 <= x.From ∧ x.From < r.Currencies.length) ∧ (0 <= x.To ∧ x.To < r.Currencies.length) ∧ x.From ≠ x.To ∧ (1 <= x.Num ∧ x.Num <= 1073741824) ∧ (1 <= x.Den ∧ x.Den <= 1073741824) ∧ 0 <= x.Since ∧ x.Since <= 100000)
def WB (r:aA) (x:c9):Bool:=decide ((0 <= x.Order ∧ x.Order < r.Orders.length) ∧ 0 <= x.From ∧ x.From <= x.To ∧ x.To <= 100000)
def OH (r:aA):Int:=if r.Rates.length <= 100 then (if j7 (fun i=>VQ r (el r.Rates i)) r.Rates.length = true then (if r.Halts.length <= 20 then (if j7 (fun i=>WB r (el r.Halts i)) r.Halts.length = true then 0 else 1) else 6) else 1) else 6
theorem XS (n:Int) (h:K9 n):(0 <= IntKind.wrap .i64 (n - 1) ∧ IntKind.wrap .i64 (n - 1) < 1073741824) ↔ (1 <= n ∧ n <= 1073741824):=by
 unfold K9 at h
 by_cases e:n = -9223372036854775808
 ·subst e
  have:IntKind.wrap .i64 (-9223372036854775808 - 1) = 9223372036854775807:=by decide
  rw [this]; omega
 ·rw [iA (by omega) (by omega)]; omega
theorem aK3 (r:aA) (h1:r.Rates.length < 100000000000000) (h2:r.Halts.length < 100000000000000) (hw:Wl bV.wf r.Rates):sL r = some (OH r):=by
 unfold sL OH
 have l1:vI r 0 = some (if j7 (fun i=>VQ r (el r.Rates i)) r.Rates.length = true then .inl () else .inr ()):=by
  refine g8? (step:=fun w=>gO r w) (fun i=>(i:Int)) _ _ _ ?_ ?_
  ·intro i hi
   have hx:=hw.2 _ (JG r.Rates i hi)
   simp only [gO,hZ hi,if_true,bQ _ _ hi,Option.bind_some,aS (show i < 9223372036854775807 by omega),EF,VQ]
   generalize el r.Rates i = x at hx
   have a1:=XS x.Num hx.2.2.1
   have a2:=XS x.Den hx.2.2.2.1
   simp only [a1,a2,Bool.not_eq_true',decide_eq_false_iff_not,beq_iff_eq,decide_eq_true_eq]
   repeat (any_goals split)
   all_goals try (simp only [decide_eq_true_eq,Bool.not_eq_true,Bool.not_eq_true',decide_eq_false_iff_not,bne_iff_ne,beq_iff_eq,ne_eq,Decidable.not_not] at *)
   all_goals first | rfl | (exfalso; omega) | (rw [if_pos (by omega)]) | (rw [if_neg (by omega)]) | omega
  ·simp only [gO,jG,if_false]
 have l2:vA r 0 = some (if j7 (fun i=>WB r (el r.Halts i)) r.Halts.length = true then .inl () else .inr ()):=by
  refine g8? (step:=fun w=>gL r w) (fun i=>(i:Int)) _ _ _ ?_ ?_
  ·intro i hi
   simp only [gL,hZ hi,if_true,bQ _ _ hi,Option.bind_some,aS (show i < 9223372036854775807 by omega),EF,WB]
   generalize el r.Halts i = x
   simp only [Bool.not_eq_true',decide_eq_false_iff_not,beq_iff_eq,decide_eq_true_eq]
   repeat (any_goals split)
   all_goals try (simp only [decide_eq_true_eq,Bool.not_eq_true,Bool.not_eq_true',decide_eq_false_iff_not,bne_iff_ne,beq_iff_eq,ne_eq,Decidable.not_not] at *)
   all_goals first | rfl | (exfalso; omega) | (rw [if_pos (by omega)]) | (rw [if_neg (by omega)]) | omega
  ·simp only [gL,jG,if_false]
 rw [l1,l2]
 generalize j7 (fun i=>VQ r (el r.Rates i)) r.Rates.length = b1
 generalize j7 (fun i=>WB r (el r.Halts i)) r.Halts.length = b2
 by_cases g1:r.Rates.length <= 100
 ·rw [decide_eq_false (show ¬ (r.Rates.length:Int) > 100 by omega),if_pos g1]
  by_cases g2:r.Halts.length <= 20
  ·rw [decide_eq_false (show ¬ (r.Halts.length:Int) > 20 by omega),if_pos g2]
   cases b1 <;> cases b2 <;> rfl
  ·rw [decide_eq_true (show (r.Halts.length:Int) > 20 by omega),if_neg g2]
   cases b1 <;> cases b2 <;> rfl
 ·rw [decide_eq_true (show (r.Rates.length:Int) > 100 by omega),if_neg g1]
  rfl
theorem aBz (r:aA) (h1:r.Rates.length < 100000000000000) (h2:r.Halts.length < 100000000000000) (h3:r.Currencies.length < 100000000000000) (h4:r.Orders.length < 6000000000000):jT r = some (OH r):=by
 unfold jT OH
 have ew:IntKind.wrap .i64 ((r.Currencies.length:Int) - 1) = (r.Currencies.length:Int) - 1:=iA (by omega) (by omega)
 have ew2:IntKind.wrap .i64 ((r.Orders.length:Int) - 1) = (r.Orders.length:Int) - 1:=iA (by omega) (by omega)
 have l1:nH r 0 = some (if j7 (fun i=>VQ r (el r.Rates i)) r.Rates.length = true then .inl () else .inr ()):=by
  refine g8? (step:=fun w=>dY r w) (fun i=>(i:Int)) _ _ _ ?_ ?_
  ·intro i hi
   simp only [dY,hZ hi,if_true,bQ _ _ hi,Option.bind_some,aS (show i < 9223372036854775807 by omega),m9,VQ,ew]
   generalize el r.Rates i = x
   simp only [Bool.not_eq_true',decide_eq_false_iff_not,beq_iff_eq,decide_eq_true_eq]
   repeat (any_goals split)
   all_goals try (simp only [decide_eq_true_eq,Bool.not_eq_true,Bool.not_eq_true',decide_eq_false_iff_not,bne_iff_ne,beq_iff_eq,ne_eq,Decidable.not_not] at *)
   all_goals first | rfl | (exfalso; omega) | (rw [if_pos (by omega)]) | (rw [if_neg (by omega)]) | omega
  ·simp only [dY,jG,if_false]
 have l2:nD r 0 = some (if j7 (fun i=>WB r (el r.Halts i)) r.Halts.length = true then .inl () else .inr ()):=by
  refine g8? (step:=fun w=>d8 r w) (fun i=>(i:Int)) _ _ _ ?_ ?_
  ·intro i hi
   simp only [d8,hZ hi,if_true,bQ _ _ hi,Option.bind_some,aS (show i < 9223372036854775807 by omega),m9,WB,ew2]
   generalize el r.Halts i = x
   simp only [Bool.not_eq_true',decide_eq_false_iff_not,beq_iff_eq,decide_eq_true_eq]
   repeat (any_goals split)
   all_goals try (simp only [decide_eq_true_eq,Bool.not_eq_true,Bool.not_eq_true',decide_eq_false_iff_not,bne_iff_ne,beq_iff_eq,ne_eq,Decidable.not_not] at *)
   all_goals first | rfl | (exfalso; omega) | (rw [if_pos (by omega)]) | (rw [if_neg (by omega)]) | omega
  ·simp only [d8,jG,if_false]
 rw [l1,l2]
 generalize j7 (fun i=>VQ r (el r.Rates i)) r.Rates.length = b1
 generalize j7 (fun i=>WB r (el r.Halts i)) r.Halts.length = b2
 by_cases g1:r.Rates.length <= 100
 ·rw [decide_eq_false (show ¬ (r.Rates.length:Int) > 100 by omega),if_pos g1]
  by_cases g2:r.Halts.length <= 20
  ·rw [decide_eq_false (show ¬ (r.Halts.length:Int) > 20 by omega),if_pos g2]
   cases b1 <;> cases b2 <;> rfl
  ·rw [decide_eq_true (show (r.Halts.length:Int) > 20 by omega),if_neg g2]
   cases b1 <;> cases b2 <;> rfl
 ·rw [decide_eq_true (show (r.Rates.length:Int) > 100 by omega),if_neg g1]
  rfl
def orE (a b:Int):Int:=if a = 0 then b else a
def S2 (r:aA) (x:cF):Bool:=decide ((0 <= x.City ∧ x.City < r.Cities.length) ∧ 0 <= x.Group ∧ x.Group < r.Groups.length)
def aAP (r:aA):Int:=if r.Groups.length <= 20 then (if j7 (fun i=>decide (0 <= (el r.Groups i).Grade ∧ (el r.Groups i).Grade < 10)) r.Groups.length = true then 0 else 1) else 6
def YB (r:aA):Int:=IC r.Currencies 8 (fun _=>true)
def X6 (r:aA):Int:=IC (r.Cities.map (·.Name)) 40 (fun i=>S8 r (el r.Cities i))
def X1 (r:aA):Int:=IC (r.Firms.map (·.Name)) 200 (fun i=>S2 r (el r.Firms i))
def YD (r:aA):Int:=IC (r.Orders.map (·.Name)) 20 (fun i=>KP (el r.Orders i))
def JF (r:aA):Int:=orE (YB r) (orE (X6 r) (orE (aAP r) (orE (X1 r) (orE (YD r) (orE (aCc r) (OH r))))))
theorem aGC (r:aA) (f:aDp r) (w:aA.wf r):iL r = some (JF r):=by
 obtain ⟨w1,w2,w3,w4,w5,w6,w7,w8⟩:=w
 have hcl:(r.Cities.map (·.Name)).length = r.Cities.length:=by simp
 have hfl:(r.Firms.map (·.Name)).length = r.Firms.length:=by simp
 have hol:(r.Orders.map (·.Name)).length = r.Orders.length:=by simp
 have a1:mQ r.Currencies 8 = some (YB r):=by
  unfold mQ
  exact T7 r.Currencies (by have:=f.cur; omega) 8 (fun w=>k9 r.Currencies w) sD (fun p=>rfl) (fun _=>true) (fun i hi=>rfl)
 have a2:mR (r.Cities.map (·.Name)) 40 r = some (X6 r):=by
  unfold mR
  refine T7 (r.Cities.map (·.Name)) (by have:=f.cit; omega) 40 (fun w=>lC (r.Cities.map (·.Name)) r w) (fun p=>iY p r) (fun p=>rfl) _ (fun i hi=>?_)
  rw [hcl] at hi
  obtain ⟨q1,q2,q3⟩:=f.cityL i hi
  simp only [iY,bQ _ _ hi,Option.bind_some,aLn r (el r.Cities i) (by omega) (by omega) (by omega)]
 have a3:mX (r.Firms.map (·.Name)) 200 r = some (X1 r):=by
  unfold mX
  refine T7 (r.Firms.map (·.Name)) (by have:=f.frm; omega) 200 (fun w=>lA (r.Firms.map (·.Name)) r w) (fun p=>hH p r) (fun p=>rfl) _ (fun i hi=>?_)
  rw [hfl] at hi
  simp only [hH,bQ _ _ hi,Option.bind_some,EF,decide_eq_true_eq,S2]
  by_cases g:0 <= (el r.Firms i).City ∧ (el r.Firms i).City < r.Cities.length <;> simp [g]
 have a4:mU (r.Orders.map (·.Name)) 20 r = some (YD r):=by
  unfold mU
  refine T7 (r.Orders.map (·.Name)) (by have:=f.ord; omega) 20 (fun w=>lB (r.Orders.map (·.Name)) r w) (fun p=>i7 p r) (fun p=>rfl) _ (fun i hi=>?_)
  rw [hol] at hi
  obtain ⟨q1,q2⟩:=f.orderL i hi
  simp only [i7,bQ _ _ hi,Option.bind_some,aKk (el r.Orders i) (by omega) (by omega)]
 have a5:∀ z,tP r z 0 = some (if j7 (fun i=>decide (0 <= (el r.Groups i).Grade ∧ (el r.Groups i).Grade < 10)) r.Groups.length = true then .inl () else .inr ()):=by
  intro z
  refine g8? (step:=fun w=>fO r z w) (fun i=>(i:Int)) _ _ _ ?_ ?_
  ·intro i hi
   have:=f.grp
   simp only [fO,hZ hi,if_true,bQ _ _ hi,Option.bind_some,aS (show i < 9223372036854775807 by omega),EF]
   generalize decide (0 <= (el r.Groups i).Grade ∧ (el r.Groups i).Grade < 10) = b
   cases b <;> rfl
  ·simp only [fO,jG,if_false]
 unfold iL JF
 simp only [aBE r f,Option.bind_some,a1,a2,a3,a4,a5,aCx r f.usa,aK3 r f.rat f.hal w7]
 generalize YB r = e1
 generalize X6 r = e2
 generalize X1 r = e3
 generalize YD r = e4
 generalize aCc r = e5
 generalize OH r = e6
 unfold aAP
 generalize j7 _ _ = b
 unfold orE
 by_cases z1:e1 = 0
 ·by_cases z2:e2 = 0
  ·by_cases gg:r.Groups.length <= 20
   ·have gg' : ¬ (r.Groups.length:Int) > 20:=by omega
    cases b with
    | false=>simp [z1,z2,gg,gg']
    | true =>
     by_cases z3:e3 = 0
     ·by_cases z4:e4 = 0
      ·by_cases z5:e5 = 0 <;> simp [z1,z2,gg,gg',z3,z4,z5]
      ·simp [z1,z2,gg,gg',z3,z4]
     ·simp [z1,z2,gg,gg',z3]
   ·have gg' : (r.Groups.length:Int) > 20:=by omega
    simp [z1,z2,gg,gg']
  ·simp [z1,z2]
 ·simp [z1]
theorem aKe (r:aA) (f:UV r) (w:aA.wf r):iL r = some (JF r):=aGC r f.big w
theorem U9 (l:List ByteArray) (i:Nat) (h:i < l.length) (hl:l.length < 6000000000001):cZ (l.take i ++ [el l i]) i = some (vT l i):=by
 rw [DK l i h,P4 _ i (by simp; omega) (by simp; omega),aDk l i h]
theorem aDA (names:List ByteArray) (hl:names.length < 6000000000001) (i:Nat) (hi:i < names.length) (F:Nat->Bool) (right:Option Bool) (hF:right = some (F i)) :
  (cZ (names.take i ++ [el names i]) i).bind (fun (r10:Int)=>if (r10 != 0) = true then (some (.inr (.inr r10)):Option ((Int × List ByteArray) ⊕ (Unit ⊕ Int))) else right.bind fun (r12:Bool)=>if (!(r12)) = true then some (.inr (.inr 1)) else some (.inl (IntKind.wrap .i64 ((i:Int) + 1),names.take i ++ [el names i]))) = some (IF (((i + 1:Nat):Int),names.take (i + 1)) (BO names F i)):=by
 rw [U9 names i hi hl,hF,DK names i hi,aS (show i < 9223372036854775807 by omega)]
 simp only [Option.bind_some]
 unfold BO
 generalize F i = b
 by_cases e:vT names i = 0
 ·cases b <;> simp [e,IF]
 ·simp [e,IF]
theorem XB (r:aA) (f:aDp r) (w:aA.wf r):jP r = some (orE (YB r) (X6 r)):=by
 obtain ⟨w1,w2,w3,w4,w5,w6,w7,w8⟩:=w
 have c1:=f.cur
 have c2:=f.cit
 have c3:=f.ord
 have l1:nC r 0 = some (toS () (aB3 (BO r.Currencies (fun _=>true)) r.Currencies.length)):=by
  refine LV (step:=fun w=>dZ r w) (fun i=>(i:Int)) _ _ ?_ ?_
  ·intro i hi
   simp only [dZ,hZ hi,if_true,P4 _ i hi (by omega),Option.bind_some,aS (show i < 9223372036854775807 by omega),BO]
   by_cases e:vT r.Currencies i = 0 <;> simp [e,IF]
  ·simp only [dZ,jG,if_false]
 have hcl:(r.Cities.map (·.Name)).length = r.Cities.length:=by simp
 have l2:mZ r 0 [] = some (toS () (aB3 (BO (r.Cities.map (·.Name)) (fun i=>S8 r (el r.Cities i))) r.Cities.length)):=by
  refine LV (step:=fun w=>dW r w.1 w.2) (fun i=>((i:Int),(r.Cities.map (·.Name)).take i)) _ _ ?_ ?_
  ·intro i hi
   obtain ⟨q1,q2,q3⟩:=f.cityL i hi
   have hlen:((r.Cities.map (·.Name)).take i).length = i:=by simp; omega
   have hcw:=(w2.2 _ (JG r.Cities i hi)).2.2.2.2.1
   simp only [dW,hZ hi,if_true,bQ _ _ hi,Option.bind_some,hlen]
   rw [if_pos (by omega),← PE (·.Name) r.Cities i hi]
   exact aDA (r.Cities.map (·.Name)) (by omega) i (by omega) (fun i=>S8 r (el r.Cities i)) _ (aBL r (el r.Cities i) (by omega) (by omega) (by omega) (by omega) (by omega) hcw)
  ·simp only [dW,jG,if_false]
 unfold jP
 rw [l1,l2]
 simp only [Option.bind_some,RY]
 unfold YB X6 IC
 rw [hcl]
 generalize WT (BO r.Currencies (fun _=>true)) r.Currencies.length = e1
 generalize WT (BO (r.Cities.map (·.Name)) (fun i=>S8 r (el r.Cities i))) r.Cities.length = e2
 unfold orE
 by_cases g1:r.Currencies.length <= 8
 ·have g1' : ¬ (r.Currencies.length:Int) > 8:=by omega
  by_cases z1:e1 = 0
  ·by_cases g2:r.Cities.length <= 40
   ·have g2' : ¬ (r.Cities.length:Int) > 40:=by omega
    by_cases z2:e2 = 0 <;> simp [g1,g1',z1,g2,g2',z2]
   ·have g2' : (r.Cities.length:Int) > 40:=by omega
    simp [g1,g1',z1,g2,g2']
  ·simp [g1,g1',z1]
 ·have g1' : (r.Currencies.length:Int) > 8:=by omega
  simp [g1,g1']
theorem Z7 (r:aA) (f:aDp r):lE r = some (orE (aAP r) (X1 r)):=by
 have c1:=f.grp
 have c2:=f.frm
 have c3:=f.cit
 have l1:oB r 0 = some (if j7 (fun i=>decide (0 <= (el r.Groups i).Grade ∧ (el r.Groups i).Grade < 10)) r.Groups.length = true then .inl () else .inr ()):=by
  refine g8? (step:=fun w=>eL r w) (fun i=>(i:Int)) _ _ _ ?_ ?_
  ·intro i hi
   simp only [eL,hZ hi,if_true,bQ _ _ hi,Option.bind_some,aS (show i < 9223372036854775807 by omega),m9]
   repeat (any_goals split)
   all_goals try (simp only [decide_eq_true_eq,Bool.not_eq_true,Bool.not_eq_true',decide_eq_false_iff_not,bne_iff_ne,beq_iff_eq,ne_eq,Decidable.not_not] at *)
   all_goals first | rfl | (exfalso; omega) | (rw [if_pos (by omega)]) | (rw [if_neg (by omega)]) | omega
  ·simp only [eL,jG,if_false]
 have hcl:(r.Firms.map (·.Name)).length = r.Firms.length:=by simp
 have l2:n9 r 0 [] = some (toS () (aB3 (BO (r.Firms.map (·.Name)) (fun i=>S2 r (el r.Firms i))) r.Firms.length)):=by
  refine LV (step:=fun w=>eD r w.1 w.2) (fun i=>((i:Int),(r.Firms.map (·.Name)).take i)) _ _ ?_ ?_
  ·intro i hi
   have hlen:((r.Firms.map (·.Name)).take i).length = i:=by simp; omega
   simp only [eD,hZ hi,if_true,bQ _ _ hi,Option.bind_some,hlen,m9]
   rw [if_pos (by omega),← PE (·.Name) r.Firms i hi,iA (by omega) (by omega),iA (by omega) (by omega)]
   refine Eq.trans ?_ (aDA (r.Firms.map (·.Name)) (by omega) i (by omega) (fun i=>S2 r (el r.Firms i)) (some (S2 r (el r.Firms i))) rfl)
   congr 1
   funext e
   simp only [Option.bind_some]
   have:S2 r (el r.Firms i) = (decide (0 <= (el r.Firms i).City ∧ (el r.Firms i).City <= (r.Cities.length:Int) - 1) && decide (0 <= (el r.Firms i).Group ∧ (el r.Firms i).Group <= (r.Groups.length:Int) - 1)):=by
    unfold S2
    rw [← Bool.decide_and,decide_eq_decide]; omega
   rw [this]
   generalize decide (0 <= (el r.Firms i).City ∧ (el r.Firms i).City <= (r.Cities.length:Int) - 1) = b1
   generalize decide (0 <= (el r.Firms i).Group ∧ (el r.Firms i).Group <= (r.Groups.length:Int) - 1) = b2
   cases b1 <;> cases b2 <;> rfl
  ·simp only [eD,jG,if_false]
 unfold lE
 rw [l1,l2]
 simp only [Option.bind_some,RY]
 unfold aAP X1 IC
 rw [hcl]
 generalize j7 _ _ = b
 generalize WT (BO (r.Firms.map (·.Name)) (fun i=>S2 r (el r.Firms i))) r.Firms.length = e2
 unfold orE
 by_cases g1:r.Groups.length <= 20
 ·have g1' : ¬ (r.Groups.length:Int) > 20:=by omega
  cases b with
  | false=>simp [g1,g1']
  | true =>
   by_cases g2:r.Firms.length <= 200
   ·have g2' : ¬ (r.Firms.length:Int) > 200:=by omega
    by_cases z2:e2 = 0 <;> simp [g1,g1',g2,g2',z2]
   ·have g2' : (r.Firms.length:Int) > 200:=by omega
    simp [g1,g1',g2,g2']
 ·have g1' : (r.Groups.length:Int) > 20:=by omega
  simp [g1,g1']
theorem WN (r:aA) (f:aDp r):jV r = some (YD r):=by
 have c3:=f.ord
 have hcl:(r.Orders.map (·.Name)).length = r.Orders.length:=by simp
 have l2:nF r 0 [] = some (toS () (aB3 (BO (r.Orders.map (·.Name)) (fun i=>KP (el r.Orders i))) r.Orders.length)):=by
  refine LV (step:=fun w=>dV r w.1 w.2) (fun i=>((i:Int),(r.Orders.map (·.Name)).take i)) _ _ ?_ ?_
  ·intro i hi
   obtain ⟨q1,q2⟩:=f.orderL i hi
   have hlen:((r.Orders.map (·.Name)).take i).length = i:=by simp; omega
   simp only [dV,hZ hi,if_true,bQ _ _ hi,Option.bind_some,hlen]
   rw [if_pos (by omega),← PE (·.Name) r.Orders i hi]
   exact aDA (r.Orders.map (·.Name)) (by omega) i (by omega) (fun i=>KP (el r.Orders i)) _ (ZW (el r.Orders i) (by omega) (by omega))
  ·simp only [dV,jG,if_false]
 unfold jV
 rw [l2]
 simp only [Option.bind_some,RY]
 unfold YD IC
 rw [hcl]
 generalize WT (BO (r.Orders.map (·.Name)) (fun i=>KP (el r.Orders i))) r.Orders.length = e2
 by_cases g2:r.Orders.length <= 20
 ·have g2' : ¬ (r.Orders.length:Int) > 20:=by omega
  by_cases z2:e2 = 0 <;> simp [g2,g2',z2]
 ·have g2' : (r.Orders.length:Int) > 20:=by omega
  simp [g2,g2']
theorem WR (r:aA) (f:aDp r) (w:aA.wf r):dS r = some (JF r):=by
 unfold dS kJ kQ k6 JF
 simp only [XB r f w,Z7 r f,WN r f,UH r f.usa f.cit,aBz r f.rat f.hal f.cur f.ord,Option.bind_some,beq_iff_eq]
 generalize YB r = e1
 generalize X6 r = e2
 generalize aAP r = e3
 generalize X1 r = e4
 generalize YD r = e5
 generalize aCc r = e6
 generalize OH r = e7
 unfold orE
 by_cases z1:e1 = 0
 ·by_cases z2:e2 = 0
  ·by_cases z3:e3 = 0
   ·by_cases z4:e4 = 0
    ·by_cases z5:e5 = 0
     ·by_cases z6:e6 = 0 <;> simp [z1,z2,z3,z4,z5,z6]
     ·simp [z1,z2,z3,z4,z5]
    ·simp [z1,z2,z3,z4]
   ·simp [z1,z2,z3]
  ·simp [z1,z2]
 ·simp [z1]
theorem ZL (r:aA) (f:UV r) (w:aA.wf r):dS r = some (JF r):=WR r f.big w
end Go.Proofs.Ytjjcaapdaldedaa
