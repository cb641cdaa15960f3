/- What realm.Check answers, exactly; and that the reference of layer 9 answers the same. -/
import Derived.Test.YtibhbfhelfjloaaPRealm
import Derived.Test.YtibhbfhelfjloaaVmG
set_option linter.unusedVariables false
set_option linter.unusedSimpArgs false
namespace Go.Proofs.Ytibhbfhelfjloaa
open Go.RowKit Vm
def letterB (x:Int):Bool:=(decide (97 ≤ x) && decide (x ≤ 122)) || (decide (65 ≤ x) && decide (x ≤ 90))
def moreB (x:Int):Bool:=x == 95 || (decide (48 ≤ x) && decide (x ≤ 57))
def byteOk (s:ByteArray) (i:Nat):Bool:=letterB (el (bytesL s) i) || (i != 0 && moreB (el (bytesL s) i))
def nameB (s:ByteArray):Bool:=decide (1 ≤ s.size) && (decide (s.size ≤ 20) && firstS (fun i=>if byteOk s i = true then none else some false) true 0 s.size)
theorem bytesL_len (s:ByteArray):(bytesL s).length = s.size:=by simp [bytesL]
theorem isName_j1_eq (s:ByteArray) (i:Nat) (x:Int) (b:Bool):mrealm_isName_j1 s i x b = some (if (b || (i != 0 && moreB x)) = true then .inl () else .inr ()):=by
 unfold mrealm_isName_j1 moreB
 cases b with
 | true=>simp
 | false =>
  by_cases h0:i = 0
  ·simp [h0]
  ·by_cases h1:x = 95
   ·simp [h0,h1]
   ·by_cases h2:x < 48
    ·have:¬ 48 ≤ x:=by omega
     simp [h0,h1,h2,this]
    ·by_cases h3:x > 57
     ·have:¬ x ≤ 57:=by omega
      simp [h0,h1,h2,h3,this]
     ·have e1:48 ≤ x:=by omega
      have e2:x ≤ 57:=by omega
      simp [h0,h1,h2,h3,e1,e2]
theorem firstS_sum {α:Type} (p:Nat→Bool) (a b:α) (m:Nat):∀ k:Nat,Sum.elim (fun _=>some a) (fun _=>some b) (firstS (fun i=>if p i = true then none else some (Sum.inr ())) (Sum.inl ():Unit ⊕ Unit) k m) = some (firstS (fun i=>if p i = true then none else some b) a k m):=by
 induction m with
 | zero=>intro k; rfl
 | succ m ih =>
  intro k
  simp only [firstS]
  by_cases h:p k = true
  ·simp only [if_pos h]; exact ih (k + 1)
  ·simp only [if_neg h]; rfl
theorem isName_eq (s:ByteArray):mrealm_isName s = some (nameB s):=by
 unfold mrealm_isName nameB
 by_cases h0:s.size = 0
 ·have:s = ByteArray.empty:=ByteArray.size_eq_zero_iff.1 h0
  subst this
  simp
 ·have e0:(s.toList == ByteArray.empty.toList) = false:=by
   cases h:s.toList == ByteArray.empty.toList with
   | false=>rfl
   | true =>
    have h1:s.toList = ByteArray.empty.toList:=by simpa using h
    rw [ByteArray.toList_eq,ByteArray.toList_eq] at h1
    have h2:s.data.toList.length = 0:=by rw [h1]; rfl
    exact absurd (show s.size = 0 by simpa using h2) h0
  rw [e0]
  simp only [Bool.false_eq_true,if_false]
  by_cases h1:(s.size:Int) > 20
  ·have:¬ s.size ≤ 20:=by omega
   simp [h1,this]
  ·have e1:s.size ≤ 20:=by omega
   have e2:1 ≤ s.size:=by omega
   have hloop:mrealm_isName_l2 s 0 = some (firstS (fun i=>if byteOk s i = true then none else some (Sum.inr ())) (Sum.inl ()) 0 s.size):=by
    refine iter_scan (step:=fun w=>mrealm_isName_l2_s s w) (fun i=>(i:Int)) _ _ _ ?_ ?_
    ·intro i hi
     have hi' : i < (bytesL s).length:=by rw [bytesL_len]; exact hi
     simp only [mrealm_isName_l2_s,lt_t hi',if_true,at_el _ _ hi',Option.bind_some,isName_j1_eq,wrap_succ (show i < 9223372036854775807 by omega)]
     unfold byteOk letterB
     generalize el (bytesL s) i = x
     by_cases a1:97 ≤ x <;> by_cases a2:x ≤ 122 <;> by_cases a3:65 ≤ x <;> by_cases a4:x ≤ 90 <;> simp [a1,a2,a3,a4] <;> split <;> simp_all
    ·simp only [mrealm_isName_l2_s,← bytesL_len,lt_f,if_false]
   rw [hloop]
   simp only [Option.bind_some,firstS_sum]
   simp [e1,e2,h1]
theorem strEq (a b:ByteArray):(a.toList == b.toList) = decide (a = b):=by
 by_cases h:a = b
 ·subst h; simp
 ·rw [decide_eq_false h]
  cases e:a.toList == b.toList with
  | false=>rfl
  | true =>
   have e:a.toList = b.toList:=by simpa using e
   rw [ByteArray.toList_eq,ByteArray.toList_eq] at e
   exact absurd (ByteArray.ext (Array.ext' e)) h
def twiceB (l:List ByteArray) (x:ByteArray) (n:Nat):Bool:=firstS (fun j=>if el l j = x then some true else none) false 0 n
def namedOf (l:List ByteArray) (i:Nat):Int:=if nameB (el l i) = true then (if twiceB l (el l i) i = true then 5 else 0) else 2
theorem index_eq (l:List ByteArray) (x:ByteArray) (hl:l.length < 9223372036854775807):mslices_Index_string_string l x = some (firstS (fun j=>if el l j = x then some (j:Int) else none) (-1) 0 l.length):=by
 unfold mslices_Index_string_string
 have hloop:mslices_Index_string_string_l1 l x 0 = some (firstS (fun j=>if el l j = x then some (Sum.inr (j:Int)) else none) (Sum.inl ()) 0 l.length):=by
  refine iter_scan (step:=fun w=>mslices_Index_string_string_l1_s l x w) (fun i=>(i:Int)) _ _ _ ?_ ?_
  ·intro i hi
   simp only [mslices_Index_string_string_l1_s,lt_t hi,if_true,at_el _ _ hi,Option.bind_some,wrap_succ (show i < 9223372036854775807 by omega),strEq,decide_eq_true_eq]
   by_cases h:x = el l i
   ·rw [if_pos h,if_pos h.symm]
   ·rw [if_neg h,if_neg (fun q=>h q.symm)]
  ·simp only [mslices_Index_string_string_l1_s,lt_f,if_false]
 rw [hloop]
 simp only [Option.bind_some]
 have key:∀ (m k:Nat),Sum.elim (fun _=>some (-1:Int)) (fun z=>some z) (firstS (fun j=>if el l j = x then some (Sum.inr (j:Int)) else none) (Sum.inl ():Unit ⊕ Int) k m) = some (firstS (fun j=>if el l j = x then some (j:Int) else none) (-1) k m):=by
  intro m
  induction m with
  | zero=>intro k; rfl
  | succ m ih =>
   intro k
   simp only [firstS]
   by_cases h:el l k = x
   ·simp only [if_pos h]; rfl
   ·simp only [if_neg h]; exact ih (k + 1)
 exact key _ 0
theorem containsS_eq (l:List ByteArray) (x:ByteArray) (hl:l.length < 9223372036854775807):mslices_Contains_string_string l x = some (twiceB l x l.length):=by
 unfold mslices_Contains_string_string
 rw [index_eq l x hl]
 simp only [Option.bind_some,Option.some.injEq]
 unfold twiceB
 have key:∀ (m k:Nat),decide (firstS (fun j=>if el l j = x then some (j:Int) else none) (-1) k m ≥ 0) = firstS (fun j=>if el l j = x then some true else none) false k m:=by
  intro m
  induction m with
  | zero=>intro k; rfl
  | succ m ih =>
   intro k
   simp only [firstS]
   by_cases h:el l k = x
   ·simp only [if_pos h]; simp
   ·simp only [if_neg h]; exact ih (k + 1)
 exact key _ 0
theorem named_eq (l:List ByteArray) (i:Nat) (hi:i < l.length) (hl:l.length < 9223372036854775807):mrealm_named l i = some (namedOf l i):=by
 unfold mrealm_named namedOf
 rw [at_el l i hi]
 simp only [Option.bind_some,isName_eq]
 cases nameB (el l i) with
 | false=>rfl
 | true =>
  have hsl:(sliceL l 0 (i:Int)).length = i:=by simp [sliceL]; omega
  rw [if_pos (show sliceOk l.length 0 i from ⟨Int.le_refl _,by omega,by omega⟩),containsS_eq _ _ (by omega),hsl]
  have:twiceB (sliceL l 0 (i:Int)) (el l i) i = twiceB l (el l i) i:=by
   unfold twiceB
   refine firstS_congr _ _ (fun j h1 h2=>?_) rfl
   have:el (sliceL l 0 (i:Int)) j = el l j:=by
    rw [el_lt _ _ (by omega),el_lt _ _ (by omega)]
    simp [sliceL]
   rw [this]
  rw [this]
  simp only [Option.bind_some,Bool.not_true,Bool.false_eq_true,if_false,if_true]
  cases twiceB l (el l i) i <;> rfl
def risB (l:List Int) (lo hi:Int):Bool:=allN (fun i=>decide (lo ≤ el l i ∧ el l i ≤ hi ∧ (0 < i→el l (i - 1) < el l i))) l.length
theorem rising_eq (l:List Int) (lo hi:Int) (hl:l.length < 9223372036854775807):mrealm_rising l lo hi = some (risB l lo hi):=by
 unfold mrealm_rising risB
 have hloop:mrealm_rising_l1 l lo hi 0 = some (if allN (fun i=>decide (lo ≤ el l i ∧ el l i ≤ hi ∧ (0 < i→el l (i - 1) < el l i))) l.length = true then .inl () else .inr ()):=by
  refine iter_all? (step:=fun w=>mrealm_rising_l1_s l lo hi w) (fun i=>(i:Int)) l.length _ _ ?_ ?_
  ·intro i hi'
   simp only [mrealm_rising_l1_s,lt_t hi',if_true,at_el _ _ hi',Option.bind_some,wrap_succ (show i < 9223372036854775807 by omega)]
   by_cases h3:0 < i
   ·have e1:IntKind.wrap .i64 ((i:Int) - 1) = ((i - 1:Nat):Int):=by rw [wrap_id (by omega) (by omega)]; omega
    rw [e1,at_el l (i - 1) (by omega)]
    simp only [Option.bind_some,decide_eq_true_eq]
    repeat (any_goals split)
    all_goals try (simp only [decide_eq_true_eq,Bool.not_eq_true,Bool.not_eq_true',decide_eq_false_iff_not,bne_iff_ne,beq_iff_eq,ne_eq,Decidable.not_not] at *)
    all_goals first | rfl | (exfalso; omega) | (rw [if_pos (by omega)]) | (rw [if_neg (by omega)]) | omega
   ·simp only [decide_eq_true_eq]
    repeat (any_goals split)
    all_goals try (simp only [decide_eq_true_eq,Bool.not_eq_true,Bool.not_eq_true',decide_eq_false_iff_not,bne_iff_ne,beq_iff_eq,ne_eq,Decidable.not_not] at *)
    all_goals first | rfl | (exfalso; omega) | (rw [if_pos (by omega)]) | (rw [if_neg (by omega)]) | omega
  ·simp only [mrealm_rising_l1_s,lt_f,if_false]
 rw [hloop]
 generalize allN _ _ = b
 cases b <;> rfl
def cityB (r:GRealm) (c:GCity):Bool :=
 allN (fun i=>decide (1 ≤ (el c.Feasts i).tmod 100 ∧ (el c.Feasts i).tmod 100 ≤ 31)) c.Feasts.length && (decide (c.Feasts.length ≤ 60) && (decide (c.Shut.length ≤ 200) && (decide (0 ≤ c.Order ∧ c.Order < r.Orders.length) && (decide (0 ≤ c.Currency ∧ c.Currency < r.Currencies.length) && (risB c.Rest 0 6 && (risB c.Feasts 101 1231 && risB c.Shut 0 100000))))))
theorem city_eq (r:GRealm) (c:GCity) (h1:c.Feasts.length < 9223372036854775807) (h2:c.Rest.length < 9223372036854775807) (h3:c.Shut.length < 9223372036854775807):mrealm_city r c = some (cityB r c):=by
 unfold mrealm_city cityB
 have hloop:mrealm_city_l1 r c 0 = some (if allN (fun i=>decide (1 ≤ (el c.Feasts i).tmod 100 ∧ (el c.Feasts i).tmod 100 ≤ 31)) c.Feasts.length = true then .inl () else .inr ()):=by
  refine iter_all? (step:=fun w=>mrealm_city_l1_s r c w) (fun i=>(i:Int)) _ _ _ ?_ ?_
  ·intro i hi'
   simp only [mrealm_city_l1_s,lt_t hi',if_true,at_el _ _ hi',Option.bind_some,wrap_succ (show i < 9223372036854775807 by omega),decide_eq_true_eq]
   repeat (any_goals split)
   all_goals try (simp only [decide_eq_true_eq,Bool.not_eq_true,Bool.not_eq_true',decide_eq_false_iff_not,bne_iff_ne,beq_iff_eq,ne_eq,Decidable.not_not] at *)
   all_goals first | rfl | (exfalso; omega) | (rw [if_pos (by omega)]) | (rw [if_neg (by omega)]) | omega
  ·simp only [mrealm_city_l1_s,lt_f,if_false]
 rw [hloop]
 simp only [in_eq,rising_eq _ _ _ h1,rising_eq _ _ _ h2,rising_eq _ _ _ h3,Option.bind_some,decide_eq_true_eq]
 generalize allN _ _ = b
 cases b with
 | false=>rfl
 | true =>
  simp only [if_true,Sum.elim_inl,Bool.true_and]
  by_cases g1:(c.Feasts.length:Int) > 60
  ·rw [if_pos g1,decide_eq_false (by omega)]; rfl
  rw [if_neg g1,decide_eq_true (show c.Feasts.length ≤ 60 by omega)]
  by_cases g2:(c.Shut.length:Int) > 200
  ·rw [if_pos g2,decide_eq_false (by omega)]; rfl
  rw [if_neg g2,decide_eq_true (show c.Shut.length ≤ 200 by omega)]
  generalize decide (0 ≤ c.Order ∧ c.Order < r.Orders.length) = b1
  generalize decide (0 ≤ c.Currency ∧ c.Currency < r.Currencies.length) = b2
  generalize risB c.Rest 0 6 = b3
  generalize risB c.Feasts 101 1231 = b4
  generalize risB c.Shut 0 100000 = b5
  cases b1 <;> cases b2 <;> cases b3 <;> cases b4 <;> rfl
def orderB (o:GOrder):Bool:=allN (fun i=>decide (0 ≤ (el o.Choices i).By ∧ (el o.Choices i).By < 5)) o.Choices.length && (risB (o.Choices.map (·.Ask)) 0 21 && risB (o.Rules.map (·.Ask)) 0 21)
theorem el_map {α β:Type} [Inhabited α] [Inhabited β] (f:α→β) (l:List α) (i:Nat) (h:i < l.length):el (l.map f) i = f (el l i):=by
 rw [el_lt _ _ (by simpa using h),el_lt _ _ h]; simp
theorem take_succ_el {α:Type} [Inhabited α] (l:List α) (i:Nat) (h:i < l.length):l.take i ++ [el l i] = l.take (i + 1):=by
 rw [el_lt l i h,List.take_append_getElem h]
theorem order_eq (o:GOrder) (h1:o.Choices.length < 6000000000000) (h2:o.Rules.length < 6000000000000):mrealm_order o = some (orderB o):=by
 unfold mrealm_order orderB
 have l1:mrealm_order_l1 o 0 [] = some (if allN (fun i=>decide (0 ≤ (el o.Choices i).By ∧ (el o.Choices i).By < 5)) o.Choices.length = true then .inl (o.Choices.map (·.Ask)) else .inr ()):=by
  have:=iter_all? (step:=fun w=>mrealm_order_l1_s o w.1 w.2) (fun i=>((i:Int),(o.Choices.take i).map (·.Ask))) o.Choices.length (fun i=>decide (0 ≤ (el o.Choices i).By ∧ (el o.Choices i).By < 5)) (o.Choices.map (·.Ask)) ?_ ?_
  ·exact this
  ·intro i hi
   have hlen:((o.Choices.take i).map (·.Ask)).length = i:=by simp; omega
   simp only [mrealm_order_l1_s,lt_t hi,if_true,at_el _ _ hi,Option.bind_some,wrap_succ (show i < 9223372036854775807 by omega),in_eq,hlen]
   rw [if_pos (by omega)]
   have:(o.Choices.take i).map (·.Ask) ++ [(el o.Choices i).Ask] = (o.Choices.take (i + 1)).map (·.Ask):=by rw [← take_succ_el _ _ hi]; simp
   rw [this]
   generalize decide (0 ≤ (el o.Choices i).By ∧ (el o.Choices i).By < 5) = b
   cases b <;> rfl
  ·simp only [mrealm_order_l1_s,lt_f,if_false]
   simp
 have l2:∀ z,mrealm_order_l2 o z 0 [] = some (o.Rules.map (·.Ask)):=by
  intro z
  have:=iter_all (step:=fun w=>mrealm_order_l2_s o z w.1 w.2) (fun i=>((i:Int),(o.Rules.take i).map (·.Ask))) o.Rules.length (o.Rules.map (·.Ask)) ?_ ?_
  ·exact this
  ·intro i hi
   have hlen:((o.Rules.take i).map (·.Ask)).length = i:=by simp; omega
   simp only [mrealm_order_l2_s,lt_t hi,if_true,at_el _ _ hi,Option.bind_some,wrap_succ (show i < 9223372036854775807 by omega),hlen]
   rw [if_pos (by omega)]
   have:(o.Rules.take i).map (·.Ask) ++ [(el o.Rules i).Ask] = (o.Rules.take (i + 1)).map (·.Ask):=by rw [← take_succ_el _ _ hi]; simp
   rw [this]
  ·simp only [mrealm_order_l2_s,lt_f,if_false]
   simp
 rw [l1]
 generalize allN _ _ = b
 cases b with
 | false=>rfl
 | true =>
  simp only [if_true,Option.bind_some,Sum.elim_inl,l2]
  rw [rising_eq _ _ _ (by simp; omega),rising_eq _ _ _ (by simp; omega)]
  generalize risB (o.Choices.map (·.Ask)) 0 21 = b1
  generalize risB (o.Rules.map (·.Ask)) 0 21 = b2
  cases b1 <;> cases b2 <;> rfl
def fitErr (l:List ByteArray) (F:Nat→Bool) (i:Nat):Int:=if namedOf l i = 0 then (if F i = true then 0 else 1) else namedOf l i
def fitsOf (l:List ByteArray) (most:Nat) (F:Nat→Bool):Int:=if l.length ≤ most then errN (fitErr l F) l.length else 6
theorem iter_err {S:Type} {step:S→Option (S ⊕ (Unit ⊕ Int))} (st:Nat→S) (n:Nat) (g:Nat→Int)
  (h:∀ i,i < n→step (st i) = some (errS (st (i + 1)) (g i))) (he:step (st n) = some (.inr (.inl ()))):(Iter step (st 0)).bind (fun r=>Sum.elim (fun _=>some (0:Int)) (fun z=>some z) r) = some (errN g n):=by
 rw [iter_first st n (fun i=>if g i = 0 then none else some (g i)) () (fun i hi=>by rw [h i hi]; unfold errS; by_cases e:g i = 0 <;> simp [e]) he]
 simp only [Option.bind_some,elim_err ()]
 rfl
theorem fits_eq (l:List ByteArray) (hl:l.length < 9223372036854775807) (most:Nat) (step:Int→Option (Int ⊕ (Unit ⊕ Int))) (fine:Int→Option Bool)
  (hs:∀ p,step p = if decide (p < (l.length:Int)) = true then (mrealm_named l p).bind fun (r2:Int)=>if (r2 != 0) = true then some (.inr (.inr (r2))) else (fine p).bind fun (r3:Bool)=>if (!(r3)) = true then some (.inr (.inr (1))) else some (.inl (IntKind.wrap .i64 (p + 1))) else some (.inr (.inl ())))
  (F:Nat→Bool) (hf:∀ i,i < l.length→fine (i:Int) = some (F i)) :
  (if decide ((l.length:Int) > (most:Int)) = true then some 6 else (Iter step 0).bind fun r5=>Sum.elim (fun z6=>some (0:Int)) (fun z7=>some z7) r5) = some (fitsOf l most F):=by
 unfold fitsOf
 by_cases g:l.length ≤ most
 ·rw [if_pos g,decide_eq_false (by omega)]
  simp only [Bool.false_eq_true,if_false]
  refine iter_err (step:=step) (fun i=>(i:Int)) l.length _ ?_ ?_
  ·intro i hi
   rw [hs]
   simp only [lt_t hi,if_true,named_eq l i hi hl,hf i hi,Option.bind_some,wrap_succ (show i < 9223372036854775807 by omega),fitErr]
   generalize namedOf l i = e
   generalize F i = b
   by_cases h0:e = 0
   ·cases b <;> simp [h0,errS]
   ·simp [h0,errS]
  ·rw [hs]; simp only [lt_f,if_false]
 ·rw [if_neg g,decide_eq_true (by omega)]
  rfl
def usB (r:GRealm) (i k:Nat):Bool:=decide ((el r.Usances k).From = (el r.Usances i).From ∧ (el r.Usances k).To = (el r.Usances i).To)
def usErr (r:GRealm) (i:Nat):Int:=if (0 ≤ (el r.Usances i).From ∧ (el r.Usances i).From < r.Cities.length) ∧ (0 ≤ (el r.Usances i).To ∧ (el r.Usances i).To < r.Cities.length) ∧ 1 ≤ (el r.Usances i).Days ∧ (el r.Usances i).Days ≤ 20000 then (if allN (fun k=>!usB r i k) i = true then 0 else 5) else 1
def usOf (r:GRealm):Int:=if r.Usances.length ≤ 100 then errN (usErr r) r.Usances.length else 6
theorem usances_eq (r:GRealm) (h:r.Usances.length < 100000000000000):mrealm_usances r = some (usOf r):=by
 unfold mrealm_usances usOf
 by_cases g:r.Usances.length ≤ 100
 ·rw [if_pos g,decide_eq_false (by omega)]
  simp only [Bool.false_eq_true,if_false]
  refine iter_err (step:=fun w=>mrealm_usances_l2_s r w) (fun i=>(i:Int)) r.Usances.length _ ?_ ?_
  ·intro i hi
   have hin:mrealm_usances_l1 r i (el r.Usances i) 0 = some (if allN (fun k=>!usB r i k) i = true then .inl () else .inr ()):=by
    have hsl:(sliceL r.Usances 0 (i:Int)).length = i:=by simp [sliceL]; omega
    refine iter_all? (step:=fun w=>mrealm_usances_l1_s r i (el r.Usances i) w) (fun k=>(k:Int)) i _ _ ?_ ?_
    ·intro k hk
     have e1:el (sliceL r.Usances 0 (i:Int)) k = el r.Usances k:=by rw [el_lt _ _ (by omega),el_lt _ _ (by omega)]; simp [sliceL]
     simp only [mrealm_usances_l1_s,hsl,lt_t hk,if_true,at_el (sliceL r.Usances 0 (i:Int)) k (by omega),e1,Option.bind_some,wrap_succ (show k < 9223372036854775807 by omega),beq_iff_eq,usB]
     by_cases a1:(el r.Usances k).From = (el r.Usances i).From <;> by_cases a2:(el r.Usances k).To = (el r.Usances i).To <;> simp [a1,a2]
    ·simp only [mrealm_usances_l1_s,hsl,lt_f,if_false]
   simp only [mrealm_usances_l2_s,lt_t hi,if_true,at_el _ _ hi,Option.bind_some,wrap_succ (show i < 9223372036854775807 by omega),in_eq,decide_eq_true_eq,hin,usErr]
   rw [if_pos (show sliceOk r.Usances.length 0 (i:Int) from ⟨Int.le_refl _,by omega,by omega⟩)]
   generalize allN _ _ = b
   generalize el r.Usances i = u
   by_cases g1:0 ≤ u.From ∧ u.From < r.Cities.length
   ·by_cases g2:0 ≤ u.To ∧ u.To < r.Cities.length
    ·by_cases g3:u.Days < 1
     ·rw [if_neg (show ¬ (_ ∧ _ ∧ _ ∧ _) from fun q=>absurd q.2.2.1 (by omega))]
      simp [g1,g2,g3,errS]
     by_cases g4:u.Days > 20000
     ·rw [if_neg (show ¬ (_ ∧ _ ∧ _ ∧ _) from fun q=>absurd q.2.2.2 (by omega))]
      simp [g1,g2,g3,g4,errS]
     ·rw [if_pos (show _ ∧ _ ∧ _ ∧ _ from ⟨g1,g2,by omega,by omega⟩)]
      cases b <;> simp [g1,g2,g3,g4,errS]
    ·rw [if_neg (show ¬ (_ ∧ _ ∧ _ ∧ _) from fun q=>g2 q.2.1)]
     simp [g1,g2,errS]
   ·rw [if_neg (show ¬ (_ ∧ _ ∧ _ ∧ _) from fun q=>g1 q.1)]
    simp [g1,errS]
  ·simp only [mrealm_usances_l2_s,lt_f,if_false]
 ·rw [if_neg g,decide_eq_true (by omega)]
  rfl
def rateB (r:GRealm) (x:GRate):Bool:=decide ((0 ≤ x.From ∧ x.From < r.Currencies.length) ∧ (0 ≤ x.To ∧ x.To < r.Currencies.length) ∧ x.From ≠ x.To ∧ (1 ≤ x.Num ∧ x.Num ≤ 1073741824) ∧ (1 ≤ x.Den ∧ x.Den ≤ 1073741824) ∧ 0 ≤ x.Since ∧ x.Since ≤ 100000)
def haltB (r:GRealm) (x:GHalt):Bool:=decide ((0 ≤ x.Order ∧ x.Order < r.Orders.length) ∧ 0 ≤ x.From ∧ x.From ≤ x.To ∧ x.To ≤ 100000)
def restOf (r:GRealm):Int:=if r.Rates.length ≤ 100 then (if allN (fun i=>rateB r (el r.Rates i)) r.Rates.length = true then (if r.Halts.length ≤ 20 then (if allN (fun i=>haltB r (el r.Halts i)) r.Halts.length = true then 0 else 1) else 6) else 1) else 6
theorem wrap_pred (n:Int) (h:I64 n):(0 ≤ IntKind.wrap .i64 (n - 1) ∧ IntKind.wrap .i64 (n - 1) < 1073741824) ↔ (1 ≤ n ∧ n ≤ 1073741824):=by
 unfold I64 at h
 by_cases e:n = -9223372036854775808
 ·subst e
  have:IntKind.wrap .i64 (-9223372036854775808 - 1) = 9223372036854775807:=by decide
  rw [this]; omega
 ·rw [wrap_id (by omega) (by omega)]; omega
theorem rest_eq (r:GRealm) (h1:r.Rates.length < 100000000000000) (h2:r.Halts.length < 100000000000000) (hw:Wl GRate.wf r.Rates):mrealm_rest r = some (restOf r):=by
 unfold mrealm_rest restOf
 have l1:mrealm_rest_l1 r 0 = some (if allN (fun i=>rateB r (el r.Rates i)) r.Rates.length = true then .inl () else .inr ()):=by
  refine iter_all? (step:=fun w=>mrealm_rest_l1_s r w) (fun i=>(i:Int)) _ _ _ ?_ ?_
  ·intro i hi
   have hx:=hw.2 _ (el_mem r.Rates i hi)
   simp only [mrealm_rest_l1_s,lt_t hi,if_true,at_el _ _ hi,Option.bind_some,wrap_succ (show i < 9223372036854775807 by omega),in_eq,rateB]
   generalize el r.Rates i = x at hx
   have a1:=wrap_pred x.Num hx.2.2.1
   have a2:=wrap_pred x.Den hx.2.2.2.1
   simp only [a1,a2,Bool.not_eq_true',decide_eq_false_iff_not,beq_iff_eq,decide_eq_true_eq]
   repeat (any_goals split)
   all_goals try (simp only [decide_eq_true_eq,Bool.not_eq_true,Bool.not_eq_true',decide_eq_false_iff_not,bne_iff_ne,beq_iff_eq,ne_eq,Decidable.not_not] at *)
   all_goals first | rfl | (exfalso; omega) | (rw [if_pos (by omega)]) | (rw [if_neg (by omega)]) | omega
  ·simp only [mrealm_rest_l1_s,lt_f,if_false]
 have l2:mrealm_rest_l2 r 0 = some (if allN (fun i=>haltB r (el r.Halts i)) r.Halts.length = true then .inl () else .inr ()):=by
  refine iter_all? (step:=fun w=>mrealm_rest_l2_s r w) (fun i=>(i:Int)) _ _ _ ?_ ?_
  ·intro i hi
   simp only [mrealm_rest_l2_s,lt_t hi,if_true,at_el _ _ hi,Option.bind_some,wrap_succ (show i < 9223372036854775807 by omega),in_eq,haltB]
   generalize el r.Halts i = x
   simp only [Bool.not_eq_true',decide_eq_false_iff_not,beq_iff_eq,decide_eq_true_eq]
   repeat (any_goals split)
   all_goals try (simp only [decide_eq_true_eq,Bool.not_eq_true,Bool.not_eq_true',decide_eq_false_iff_not,bne_iff_ne,beq_iff_eq,ne_eq,Decidable.not_not] at *)
   all_goals first | rfl | (exfalso; omega) | (rw [if_pos (by omega)]) | (rw [if_neg (by omega)]) | omega
  ·simp only [mrealm_rest_l2_s,lt_f,if_false]
 rw [l1,l2]
 generalize allN (fun i=>rateB r (el r.Rates i)) r.Rates.length = b1
 generalize allN (fun i=>haltB r (el r.Halts i)) r.Halts.length = b2
 by_cases g1:r.Rates.length ≤ 100
 ·rw [decide_eq_false (show ¬ (r.Rates.length:Int) > 100 by omega),if_pos g1]
  by_cases g2:r.Halts.length ≤ 20
  ·rw [decide_eq_false (show ¬ (r.Halts.length:Int) > 20 by omega),if_pos g2]
   cases b1 <;> cases b2 <;> rfl
  ·rw [decide_eq_true (show (r.Halts.length:Int) > 20 by omega),if_neg g2]
   cases b1 <;> cases b2 <;> rfl
 ·rw [decide_eq_true (show (r.Rates.length:Int) > 100 by omega),if_neg g1]
  rfl
def orE (a b:Int):Int:=if a = 0 then b else a
theorem orE_zero {a b:Int}:orE a b = 0 ↔ a = 0 ∧ b = 0:=by
 unfold orE
 by_cases h:a = 0 <;> simp [h]
def firmB (r:GRealm) (x:GFirm):Bool:=decide ((0 ≤ x.City ∧ x.City < r.Cities.length) ∧ 0 ≤ x.Group ∧ x.Group < r.Groups.length)
def grpOf (r:GRealm):Int:=if r.Groups.length ≤ 20 then (if allN (fun i=>decide (0 ≤ (el r.Groups i).Grade ∧ (el r.Groups i).Grade < 10)) r.Groups.length = true then 0 else 1) else 6
def curOf (r:GRealm):Int:=fitsOf r.Currencies 8 (fun _=>true)
def citOf (r:GRealm):Int:=fitsOf (r.Cities.map (·.Name)) 40 (fun i=>cityB r (el r.Cities i))
def frmOf (r:GRealm):Int:=fitsOf (r.Firms.map (·.Name)) 200 (fun i=>firmB r (el r.Firms i))
def ordOf (r:GRealm):Int:=fitsOf (r.Orders.map (·.Name)) 20 (fun i=>orderB (el r.Orders i))
def checkOf (r:GRealm):Int:=orE (curOf r) (orE (citOf r) (orE (grpOf r) (orE (frmOf r) (orE (ordOf r) (orE (usOf r) (restOf r))))))
theorem check_eqB (r:GRealm) (f:BigL r) (w:GRealm.wf r):mrealm_Check r = some (checkOf r):=by
 obtain ⟨w1,w2,w3,w4,w5,w6,w7,w8⟩:=w
 have hcl:(r.Cities.map (·.Name)).length = r.Cities.length:=by simp
 have hfl:(r.Firms.map (·.Name)).length = r.Firms.length:=by simp
 have hol:(r.Orders.map (·.Name)).length = r.Orders.length:=by simp
 have a1:mrealm_fits_s1 r.Currencies 8 = some (curOf r):=by
  unfold mrealm_fits_s1
  exact fits_eq r.Currencies (by have:=f.cur; omega) 8 (fun w=>mrealm_fits_s1_l1_s r.Currencies w) mrealm_Check_1 (fun p=>rfl) (fun _=>true) (fun i hi=>rfl)
 have a2:mrealm_fits_s2 (r.Cities.map (·.Name)) 40 r = some (citOf r):=by
  unfold mrealm_fits_s2
  refine fits_eq (r.Cities.map (·.Name)) (by have:=f.cit; omega) 40 (fun w=>mrealm_fits_s2_l1_s (r.Cities.map (·.Name)) r w) (fun p=>mrealm_Check_2_s1 p r) (fun p=>rfl) _ (fun i hi=>?_)
  rw [hcl] at hi
  obtain ⟨q1,q2,q3⟩:=f.cityL i hi
  simp only [mrealm_Check_2_s1,at_el _ _ hi,Option.bind_some,city_eq r (el r.Cities i) (by omega) (by omega) (by omega)]
 have a3:mrealm_fits_s3 (r.Firms.map (·.Name)) 200 r = some (frmOf r):=by
  unfold mrealm_fits_s3
  refine fits_eq (r.Firms.map (·.Name)) (by have:=f.frm; omega) 200 (fun w=>mrealm_fits_s3_l1_s (r.Firms.map (·.Name)) r w) (fun p=>mrealm_Check_3_s1 p r) (fun p=>rfl) _ (fun i hi=>?_)
  rw [hfl] at hi
  simp only [mrealm_Check_3_s1,at_el _ _ hi,Option.bind_some,in_eq,decide_eq_true_eq,firmB]
  by_cases g:0 ≤ (el r.Firms i).City ∧ (el r.Firms i).City < r.Cities.length <;> simp [g]
 have a4:mrealm_fits_s4 (r.Orders.map (·.Name)) 20 r = some (ordOf r):=by
  unfold mrealm_fits_s4
  refine fits_eq (r.Orders.map (·.Name)) (by have:=f.ord; omega) 20 (fun w=>mrealm_fits_s4_l1_s (r.Orders.map (·.Name)) r w) (fun p=>mrealm_Check_4_s1 p r) (fun p=>rfl) _ (fun i hi=>?_)
  rw [hol] at hi
  obtain ⟨q1,q2⟩:=f.orderL i hi
  simp only [mrealm_Check_4_s1,at_el _ _ hi,Option.bind_some,order_eq (el r.Orders i) (by omega) (by omega)]
 have a5:∀ z,mrealm_Check_l1 r z 0 = some (if allN (fun i=>decide (0 ≤ (el r.Groups i).Grade ∧ (el r.Groups i).Grade < 10)) r.Groups.length = true then .inl () else .inr ()):=by
  intro z
  refine iter_all? (step:=fun w=>mrealm_Check_l1_s r z w) (fun i=>(i:Int)) _ _ _ ?_ ?_
  ·intro i hi
   have:=f.grp
   simp only [mrealm_Check_l1_s,lt_t hi,if_true,at_el _ _ hi,Option.bind_some,wrap_succ (show i < 9223372036854775807 by omega),in_eq]
   generalize decide (0 ≤ (el r.Groups i).Grade ∧ (el r.Groups i).Grade < 10) = b
   cases b <;> rfl
  ·simp only [mrealm_Check_l1_s,lt_f,if_false]
 unfold mrealm_Check checkOf
 simp only [names_eq r f,Option.bind_some,a1,a2,a3,a4,a5,usances_eq r f.usa,rest_eq r f.rat f.hal w7]
 generalize curOf r = e1
 generalize citOf r = e2
 generalize frmOf r = e3
 generalize ordOf r = e4
 generalize usOf r = e5
 generalize restOf r = e6
 unfold grpOf
 generalize allN _ _ = b
 unfold orE
 by_cases z1:e1 = 0
 ·by_cases z2:e2 = 0
  ·by_cases gg:r.Groups.length ≤ 20
   ·have gg' : ¬ (r.Groups.length:Int) > 20:=by omega
    cases b with
    | false=>simp [z1,z2,gg,gg']
    | true =>
     by_cases z3:e3 = 0
     ·by_cases z4:e4 = 0
      ·by_cases z5:e5 = 0 <;> simp [z1,z2,gg,gg',z3,z4,z5]
      ·simp [z1,z2,gg,gg',z3,z4]
     ·simp [z1,z2,gg,gg',z3]
   ·have gg' : (r.Groups.length:Int) > 20:=by omega
    simp [z1,z2,gg,gg']
  ·simp [z1,z2]
 ·simp [z1]
theorem check_eq (r:GRealm) (f:FewL r) (w:GRealm.wf r):mrealm_Check r = some (checkOf r):=check_eqB r f.big w
end Go.Proofs.Ytibhbfhelfjloaa
