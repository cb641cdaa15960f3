/- What the functions of layer 14 answer: facts, the file of a day, the day of sight. -/
import Derived.Test.YtfhebiceipgdmaaFn
import Derived.Test.YtfhebiceipgdmaaTy
import Derived.Test.YtfhebiceipgdmaaVmG
set_option linter.unusedVariables false
set_option linter.unusedSimpArgs false
namespace Go.Proofs.Ytfhebiceipgdmaa
open Go.RowKit Vm
theorem firstO_list {α X:Type} [Inhabited α] (h:α→Option X) (l:List α):firstO (fun i=>h (el l i)) 0 l.length = l.findSome? h:=by
 have key:∀ (m k:Nat),k + m = l.length→firstO (fun i=>h (el l i)) k m = (l.drop k).findSome? h:=by
  intro m
  induction m with
  | zero=>intro k hk; rw [List.drop_eq_nil_of_le (by omega)]; rfl
  | succ m ih =>
   intro k hk
   have hl:k < l.length:=by omega
   rw [List.drop_eq_getElem_cons hl,List.findSome?_cons]
   simp only [firstO,el_lt l k hl]
   cases h l[k] with
   | some x=>rfl
   | none=>exact ih (k + 1) (by omega)
 exact (key l.length 0 (by omega)).trans (by rw [List.drop_zero])
theorem takeWhile_at {α:Type} [Inhabited α] (p:α→Bool):∀ (l:List α) (i:Nat),i ≤ l.length→(∀ j,j < i→p (el l j) = true)→(i < l.length→p (el l i) = false)→l.takeWhile p = l.take i
 | [],i,_,_,_=>by simp
 | x :: l,0,_,_,h=>by
  have:p x = false:=h (by simp)
  simp [List.takeWhile,this]
 | x :: l,i + 1,hi,ha,h=>by
  have h0:p x = true:=ha 0 (by omega)
  simp only [List.takeWhile,h0,List.take_succ_cons]
  rw [takeWhile_at p l i (by simpa using hi) (fun j hj=>ha (j + 1) (by omega)) (fun q=>h (by simpa using q))]
theorem firstS_take {α:Type} [Inhabited α] (p:α→Bool) (l:List α):firstS (fun i=>if p (el l i) = true then none else some (l.take i)) l 0 l.length = l.takeWhile p:=by
 rcases firstS_cases (fun i=>if p (el l i) = true then none else some (l.take i)) l l.length 0 with ⟨h1,h2⟩ | ⟨i,x,_,h2,h3,h4,h5⟩
 ·rw [h1,takeWhile_at p l l.length (Nat.le_refl _) (fun j hj=>by have:=h2 j (Nat.zero_le _) (by omega); split at this <;> first | assumption | cases this) (fun q=>absurd q (by omega)),List.take_length]
 ·rw [h4]
  split at h3
  ·cases h3
  ·rename_i hn
   cases h3
   exact (takeWhile_at p l i (by omega) (fun j hj=>by have:=h5 j (Nat.zero_le _) hj; split at this <;> first | assumption | cases this) (fun _=>by simpa using hn)).symm
theorem firstS_len {α:Type} [Inhabited α] (p:α→Bool) (l:List α):firstS (fun i=>if p (el l i) = true then none else some (i:Int)) (l.length:Int) 0 l.length = ((l.takeWhile p).length:Int):=by
 rcases firstS_cases (fun i=>if p (el l i) = true then none else some (i:Int)) (l.length:Int) l.length 0 with ⟨h1,h2⟩ | ⟨i,x,_,h2,h3,h4,h5⟩
 ·rw [h1,takeWhile_at p l l.length (Nat.le_refl _) (fun j hj=>by have:=h2 j (Nat.zero_le _) (by omega); split at this <;> first | assumption | cases this) (fun q=>absurd q (by omega)),List.take_length]
 ·rw [h4]
  split at h3
  ·cases h3
  ·rename_i hn
   cases h3
   rw [takeWhile_at p l i (by omega) (fun j hj=>by have:=h5 j (Nat.zero_le _) hj; split at this <;> first | assumption | cases this) (fun _=>by simpa using hn),List.length_take]
   omega
theorem take_whole {α:Type} (p:α→Bool) (l:List α):l.take (l.takeWhile p).length = l.takeWhile p:=by
 obtain ⟨t,ht⟩:=List.takeWhile_prefix p (l:=l)
 conv=>lhs; arg 2; rw [← ht]
 exact List.take_left
theorem whole_le {α:Type} (p:α→Bool) (l:List α):(l.takeWhile p).length ≤ l.length:=(List.takeWhile_prefix p).length_le
theorem take_step {α:Type} [Inhabited α] (l:List α) (i:Nat) (h:i < l.length):l.take (i + 1) = l.take i ++ [el l i]:=by
 rw [el_lt l i h]; exact List.take_succ_eq_append_getElem h
theorem filter_step {α:Type} [Inhabited α] (p:α→Bool) (l:List α) (i:Nat) (h:i < l.length):(l.take (i + 1)).filter p = if p (el l i) = true then (l.take i).filter p ++ [el l i] else (l.take i).filter p:=by
 rw [take_step l i h,List.filter_append]
 cases hp:p (el l i) <;> simp [hp]
theorem filter_len {α:Type} (p:α→Bool) (l:List α) (i:Nat):((l.take i).filter p).length ≤ l.length :=
 Nat.le_trans (List.length_filter_le _ _) (by rw [List.length_take]; omega)
theorem take_len {α:Type} (l:List α) (i:Nat):(l.take i).length ≤ l.length:=by rw [List.length_take]; omega
structure Few14 (f:GFile):Prop where
 s:f.Signs.length ≤ 50
 l:f.Alters.length ≤ 10
 a:f.Acts.length ≤ 110
 t:f.Facts.length ≤ 220
theorem few14_eq (f:GFile):mallongeref14_Few f = some (decide (f.Signs.length ≤ 50 ∧ f.Alters.length ≤ 10 ∧ f.Acts.length ≤ 110 ∧ f.Facts.length ≤ 220)):=by
 unfold mallongeref14_Few
 by_cases h1:f.Signs.length ≤ 50
 ·rw [if_pos (decide_eq_true (by omega))]
  by_cases h2:f.Alters.length ≤ 10
  ·rw [if_pos (decide_eq_true (by omega))]
   by_cases h3:f.Acts.length ≤ 110
   ·rw [if_pos (decide_eq_true (by omega))]
    exact congrArg some (decide_eq_decide.2 ⟨fun q=>⟨h1,h2,h3,by omega⟩,fun q=>by omega⟩)
   ·rw [if_neg (fun q=>h3 (by have:=of_decide_eq_true q; omega)),decide_eq_false (fun q=>h3 q.2.2.1)]
  ·rw [if_neg (fun q=>h2 (by have:=of_decide_eq_true q; omega)),decide_eq_false (fun q=>h2 q.2.1)]
 ·rw [if_neg (fun q=>h1 (by have:=of_decide_eq_true q; omega)),decide_eq_false (fun q=>h1 q.1)]
def cellN (n:Int):GCell:=GCell.mk true (if n = 0 then 0 else 1)
def factH (k a:Int) (x:GFact):Option GCell:=if x.Kind = k ∧ x.At = a then some (cellN x.N) else none
def factOf (F:List GFact) (k a:Int):GCell:=(F.findSome? (factH k a)).getD ⟨false,0⟩
theorem truth_eq (b:Bool):mrecord_truth b = some ⟨true,if b = true then 1 else 0⟩:=by unfold mrecord_truth; cases b <;> rfl
theorem fact_eq (f:GFile) (k a:Int) (hl:f.Facts.length < 1000000):mrecord_Fact f k a = some (factOf f.Facts k a):=by
 unfold mrecord_Fact
 have h:mrecord_Fact_l1 f k a 0 = some (toS () (firstO (fun i=>factH k a (el f.Facts i)) 0 f.Facts.length)):=iter_first (step:=fun w=>mrecord_Fact_l1_s f k a w) (fun i=>(i:Int)) f.Facts.length (fun i=>factH k a (el f.Facts i)) () (by
  intro i hi
  simp only [mrecord_Fact_l1_s,lt_t hi,if_true,at_el _ _ hi,Option.bind_some,wrap_succ (show i < 9223372036854775807 by omega),truth_eq,factH,beq_iff_eq]
  by_cases h1:(el f.Facts i).Kind = k <;> by_cases h2:(el f.Facts i).At = a <;> by_cases h3:(el f.Facts i).N = 0 <;> simp [h1,h2,h3,cellN]) (by
  simp only [mrecord_Fact_l1_s,lt_f,if_false])
 rw [h,Option.bind_some,elim_toS,firstO_list]
 unfold factOf
 cases f.Facts.findSome? (factH k a) <;> rfl
theorem ref_fact_eq (f:GFile) (k a:Int) (hl:f.Facts.length < 1000000):mallongeref14_Fact f k a = some (factOf f.Facts k a):=by
 unfold mallongeref14_Fact
 have h:mallongeref14_Fact_l1 f k a 0 = some (toS () (firstO (fun i=>(factH k a (el f.Facts i)).map GCell.N) 0 f.Facts.length)):=iter_first (step:=fun w=>mallongeref14_Fact_l1_s f k a w) (fun i=>(i:Int)) f.Facts.length (fun i=>(factH k a (el f.Facts i)).map GCell.N) () (by
  intro i hi
  simp only [mallongeref14_Fact_l1_s,lt_t hi,if_true,at_el _ _ hi,Option.bind_some,wrap_succ (show i < 9223372036854775807 by omega),factH,beq_iff_eq]
  by_cases h1:(el f.Facts i).Kind = k <;> by_cases h2:(el f.Facts i).At = a <;> by_cases h3:(el f.Facts i).N = 0 <;> simp [h1,h2,h3,cellN]) (by
  simp only [mallongeref14_Fact_l1_s,lt_f,if_false])
 rw [h,Option.bind_some,elim_toS,firstO_list (fun x=>(factH k a x).map GCell.N)]
 unfold factOf
 have e:∀ l:List GFact,l.findSome? (fun x=>(factH k a x).map GCell.N) = (l.findSome? (factH k a)).map GCell.N:=by
  intro l
  induction l with
  | nil=>rfl
  | cons x l ih=>simp only [List.findSome?_cons]; cases factH k a x <;> simp [ih]
 rw [e]
 cases hq:f.Facts.findSome? (factH k a) with
 | none=>rfl
 | some c =>
  obtain ⟨x,_,hx⟩:=List.exists_of_findSome?_eq_some hq
  unfold factH at hx
  split at hx
  ·cases hx; rfl
  ·cases hx
theorem fact_cons (x:GFact) (F:List GFact) (k a:Int):factOf (x :: F) k a = if x.Kind = k ∧ x.At = a then cellN x.N else factOf F k a:=by
 unfold factOf
 rw [List.findSome?_cons]
 unfold factH
 by_cases h:x.Kind = k ∧ x.At = a
 ·rw [if_pos h,if_pos h]; rfl
 ·rw [if_neg h,if_neg h]
theorem fact_append (F G:List GFact) (k a:Int):factOf (F ++ G) k a = if (factOf F k a).Known = true then factOf F k a else factOf G k a:=by
 induction F with
 | nil=>rfl
 | cons x F ih =>
  rw [List.cons_append,fact_cons,fact_cons]
  by_cases h:x.Kind = k ∧ x.At = a
  ·rw [if_pos h,if_pos h]; rfl
  ·rw [if_neg h,if_neg h,ih]
theorem fact_unknown (F:List GFact) (k a:Int) (h:(factOf F k a).Known = false):(factOf F k a).N = 0:=by
 induction F with
 | nil=>rfl
 | cons x F ih =>
  rw [fact_cons] at h ⊢
  by_cases q:x.Kind = k ∧ x.At = a
  ·rw [if_pos q] at h; cases h
  ·rw [if_neg q] at h ⊢; exact ih h
theorem fact_others (F:List GFact) (k a:Int) (h:∀ x ∈ F,x.At ≠ a):factOf F k a = ⟨false,0⟩:=by
 induction F with
 | nil=>rfl
 | cons x F ih =>
  rw [fact_cons,if_neg (fun q=>h x (by simp) q.2)]
  exact ih fun y hy=>h y (by simp [hy])
end Go.Proofs.Ytfhebiceipgdmaa
