/- The laws of layer 12 (paper): PaperLess, PaperSums. -/
import Derived.Test.YtfhebiceipgdmaaPPaper2
set_option linter.unusedVariables false
set_option linter.unusedSimpArgs false
namespace Go.Proofs.Ytfhebiceipgdmaa
open Go.RowKit Vm
theorem el_take {α:Type} [Inhabited α] (l:List α) (n i:Nat) (h:i < n):el (l.take n) i = el l i:=by
 unfold el
 rw [List.getD_eq_getElem?_getD,List.getD_eq_getElem?_getD,List.getElem?_take_of_lt h]
theorem less_acts {r:GRealm} {f:GFile} (n:Nat) (h:checkP r f = 0):checkP r (GFile.mk f.Bill f.Signs f.Alters (f.Acts.take n) f.Facts) = 0:=by
 obtain ⟨h1,h2,h3,h4,h5,h6,h7⟩:=checkP_zero.1 h
 have hl:(f.Acts.take n).length ≤ f.Acts.length ∧ (f.Acts.take n).length ≤ n:=by simp; omega
 refine checkP_zero.2 ⟨⟨h1.1,h1.2.1,by show (f.Acts.take n).length ≤ 100; omega,h1.2.2.2⟩,h2,h3,h4,h5,fun i hi=>?_,h7⟩
 have hi' : i < (f.Acts.take n).length:=hi
 rw [← h6 i (by omega)]
 unfold actErr firstA
 show _ = _
 have e1:el (f.Acts.take n) i = el f.Acts i:=el_take _ _ _ (by omega)
 have e2:el (f.Acts.take n) (i - 1) = el f.Acts (i - 1):=el_take _ _ _ (by omega)
 simp only [e1,e2]
 rfl
theorem less_facts {r:GRealm} {f:GFile} (n:Nat) (h:checkP r f = 0):checkP r (GFile.mk f.Bill f.Signs f.Alters f.Acts (f.Facts.take n)) = 0:=by
 obtain ⟨h1,h2,h3,h4,h5,h6,h7⟩:=checkP_zero.1 h
 have hl:(f.Facts.take n).length ≤ f.Facts.length ∧ (f.Facts.take n).length ≤ n:=by simp; omega
 refine checkP_zero.2 ⟨⟨h1.1,h1.2.1,h1.2.2.1,by show (f.Facts.take n).length ≤ 200; omega⟩,h2,h3,h4,h5,h6,fun i hi=>?_⟩
 have hi' : i < (f.Facts.take n).length:=hi
 rw [← h7 i (by omega)]
 unfold factErr
 have e1:el (f.Facts.take n) i = el f.Facts i:=el_take _ _ _ (by omega)
 have e2:el (f.Facts.take n) (i - 1) = el f.Facts (i - 1):=el_take _ _ _ (by omega)
 simp only [e1,e2]
theorem less_alters {r:GRealm} {f:GFile} (n:Nat) (h:checkP r f = 0):checkP r (GFile.mk f.Bill f.Signs (f.Alters.take n) f.Acts f.Facts) = 0:=by
 obtain ⟨h1,h2,h3,h4,h5,h6,h7⟩:=checkP_zero.1 h
 have hl:(f.Alters.take n).length ≤ f.Alters.length ∧ (f.Alters.take n).length ≤ n:=by simp; omega
 refine checkP_zero.2 ⟨⟨h1.1,by show (f.Alters.take n).length ≤ 4; omega,h1.2.2⟩,h2,h3,h4,fun i hi=>?_,h6,h7⟩
 have hi' : i < (f.Alters.take n).length:=hi
 rw [← h5 i (by omega)]
 unfold altErr lastA
 have e1:el (f.Alters.take n) i = el f.Alters i:=el_take _ _ _ (by omega)
 have e2:el (f.Alters.take n) (i - 1) = el f.Alters (i - 1):=el_take _ _ _ (by omega)
 simp only [e1,e2]
theorem slice_last {α:Type} (l:List α) (h:0 < l.length) (hl:l.length < 1000):sliceOk l.length 0 (IntKind.wrap .i64 ((l.length:Int) - 1)) ∧ sliceL l 0 (IntKind.wrap .i64 ((l.length:Int) - 1)) = l.take (l.length - 1):=by
 have e:IntKind.wrap .i64 ((l.length:Int) - 1) = ((l.length - 1:Nat):Int):=by rw [wrap_id (by omega) (by omega)]; omega
 rw [e]
 exact ⟨⟨Int.le_refl _,by omega,by omega⟩,sliceL_take l _⟩
def sumOf (l:List GAlter) (s:Int) (i:Int):Int:=l.foldl (fun a x=>if x.At ≤ i then x.Sum else a) s
theorem sumAt_eq (f:GFile) (i:Int) (hl:f.Alters.length < 1000):mpaper_SumAt f i = some (sumOf f.Alters f.Bill.Sum i):=by
 have l1:mpaper_SumAt_l1 f i f.Bill.Sum 0 = some (sumOf f.Alters f.Bill.Sum i):=by
  unfold mpaper_SumAt_l1
  refine iter_all (step:=fun w=>mpaper_SumAt_l1_s f i w.1 w.2) (fun k:Nat=>(sumOf (f.Alters.take k) f.Bill.Sum i,(k:Int))) f.Alters.length (sumOf f.Alters f.Bill.Sum i) ?_ ?_
  ·intro k hk
   have e:sumOf (f.Alters.take (k + 1)) f.Bill.Sum i = if (el f.Alters k).At ≤ i then (el f.Alters k).Sum else sumOf (f.Alters.take k) f.Bill.Sum i:=by
    unfold sumOf
    rw [take_el12 _ _ hk,List.foldl_append]
    rfl
   simp only [mpaper_SumAt_l1_s,lt_t hk,if_true,at_el _ _ hk,Option.bind_some,wrap_succ (show k < 9223372036854775807 by omega),e,decide_eq_true_eq]
   by_cases c:(el f.Alters k).At ≤ i
   ·rw [if_pos c,if_pos c]
   ·rw [if_neg c,if_neg c]
  ·simp only [mpaper_SumAt_l1_s,lt_f,if_false,List.take_length]
 unfold mpaper_SumAt
 rw [l1]; rfl
theorem alt_order {f:GFile} (h:∀ i,i < f.Alters.length→altErr f i = 0) (hl:f.Signs.length ≤ 40):∀ i,i < f.Alters.length→1 ≤ (el f.Alters i).At ∧ (el f.Alters i).At ≤ f.Signs.length ∧ (0 < i→(el f.Alters (i - 1)).At < (el f.Alters i).At):=by
 intro i
 induction i with
 | zero =>
  intro hi
  have q:=h 0 hi
  unfold altErr at q
  by_cases c:IntKind.wrap .i64 (lastA f 0 + 1) ≤ (el f.Alters 0).At ∧ (el f.Alters 0).At ≤ (f.Signs.length:Int)
  ·have e:IntKind.wrap .i64 (lastA f 0 + 1) = 1:=by
    show IntKind.wrap .i64 (0 + 1) = 1
    decide
   rw [e] at c
   exact ⟨c.1,c.2,fun z=>by omega⟩
  ·rw [if_pos c] at q; cases q
 | succ i ih =>
  intro hi
  obtain ⟨p1,p2,_⟩:=ih (by omega)
  have q:=h (i + 1) hi
  unfold altErr at q
  by_cases c:IntKind.wrap .i64 (lastA f (i + 1) + 1) ≤ (el f.Alters (i + 1)).At ∧ (el f.Alters (i + 1)).At ≤ (f.Signs.length:Int)
  ·have e:lastA f (i + 1) = (el f.Alters i).At:=by unfold lastA; rw [if_neg (by omega)]; rfl
   rw [e,wrap_id (by omega) (by omega)] at c
   exact ⟨by omega,c.2,fun _=>by show (el f.Alters i).At < _; omega⟩
  ·rw [if_pos c] at q; cases q
theorem sum_none (l:List GAlter) (s i:Int) (h:∀ x ∈ l,i < x.At):sumOf l s i = s:=by
 unfold sumOf
 induction l generalizing s with
 | nil=>rfl
 | cons a l ih =>
  rw [List.foldl_cons,if_neg (by have:=h a (List.mem_cons_self ..); omega)]
  exact ih s fun x hx=>h x (List.mem_cons_of_mem _ hx)
theorem sum_same (l:List GAlter) (s i j:Int) (h:∀ x ∈ l,x.At ≤ i ↔ x.At ≤ j):sumOf l s i = sumOf l s j:=by
 unfold sumOf
 induction l generalizing s with
 | nil=>rfl
 | cons a l ih =>
  rw [List.foldl_cons,List.foldl_cons]
  have e:=h a (List.mem_cons_self ..)
  by_cases c:a.At ≤ i
  ·rw [if_pos c,if_pos (e.1 c)]; exact ih _ fun x hx=>h x (List.mem_cons_of_mem _ hx)
  ·rw [if_neg c,if_neg (fun q=>c (e.2 q))]; exact ih _ fun x hx=>h x (List.mem_cons_of_mem _ hx)
theorem sum_append (l:List GAlter) (a:GAlter) (s i:Int):sumOf (l ++ [a]) s i = if a.At ≤ i then a.Sum else sumOf l s i:=by
 unfold sumOf
 rw [List.foldl_append]; rfl
theorem sum_at {f:GFile} (h:∀ i,i < f.Alters.length→altErr f i = 0) (hl:f.Signs.length ≤ 40) (s:Int) {k:Nat} (hk:k < f.Alters.length):sumOf f.Alters s (el f.Alters k).At = (el f.Alters k).Sum:=by
 have ho:=alt_order h hl
 have hmono:∀ d j:Nat,j + d < f.Alters.length→0 < d→(el f.Alters j).At < (el f.Alters (j + d)).At:=by
  intro d
  induction d with
  | zero=>intro j _ h0; omega
  | succ d ih =>
   intro j hj _
   have q:=(ho (j + (d + 1)) hj).2.2 (by omega)
   have e:j + (d + 1) - 1 = j + d:=by omega
   rw [e] at q
   by_cases c:d = 0
   ·subst c; exact q
   ·have:=ih j (by omega) (by omega); omega
 have e:f.Alters = f.Alters.take (k + 1) ++ f.Alters.drop (k + 1):=(List.take_append_drop _ _).symm
 have e2:sumOf f.Alters s (el f.Alters k).At = sumOf (f.Alters.drop (k + 1)) (sumOf (f.Alters.take (k + 1)) s (el f.Alters k).At) (el f.Alters k).At:=by
  show List.foldl _ _ _ = List.foldl _ (List.foldl _ _ _) _
  rw [← List.foldl_append,List.take_append_drop]
 rw [e2,sum_none]
 ·rw [take_el12 _ _ hk,sum_append,if_pos (Int.le_refl _)]
 ·intro x hx
  obtain ⟨j,hj,rfl⟩:=List.mem_iff_getElem.1 hx
  rw [List.length_drop] at hj
  rw [List.getElem_drop,← el_lt _ _ (by omega)]
  have:=hmono (1 + j) k (by omega) (by omega)
  have e3:k + (1 + j) = k + 1 + j:=by omega
  rw [e3] at this
  exact this
section
variable (hs:mallongelaw12_sane = some true)
include hs
theorem law12_less (r:GRealm) (f:GFile) (bg:BigL r) (w:GRealm.wf r):mallongelaw12_PaperLess r f = some true:=by
 unfold mallongelaw12_PaperLess
 obtain ⟨x,e1,g⟩:=few12_spec f
 rw [hs,e1]
 cases x with
 | false=>rfl
 | true =>
  obtain ⟨g1,g2,g3,g4⟩:=g rfl
  simp only [Option.bind_some,Bool.not_true,Bool.false_eq_true,if_false,checkP_eq r f bg w,bne_iff_ne,decide_eq_true_eq]
  by_cases h0:checkP r f = 0
  ·rw [if_neg (not_not_intro h0)]
   have j1:∀ n m k,mallongelaw12_PaperLess_j1 r f (f.Acts.take n) (f.Facts.take m) true (f.Alters.take k) = some true:=by
    intro n m k
    unfold mallongelaw12_PaperLess_j1
    simp only [checkP_eq r _ bg w,less_acts n h0,less_facts m h0,less_alters k h0,if_true,Option.bind_some,beq_self_eq_true]
   have j2:∀ n m,mallongelaw12_PaperLess_j2 r f (f.Acts.take n) true (f.Facts.take m) = some true:=by
    intro n m
    unfold mallongelaw12_PaperLess_j2
    simp only [decide_eq_true_eq]
    by_cases c:(f.Alters.length:Int) > 0
    ·obtain ⟨q1,q2⟩:=slice_last f.Alters (by omega) (by omega)
     rw [if_pos c,if_pos q1,q2,j1]; rfl
    ·rw [if_neg c]
     have:=j1 n m f.Alters.length
     rw [List.take_length] at this
     rw [this]; rfl
   have j3:∀ n,mallongelaw12_PaperLess_j3 r f true (f.Acts.take n) = some true:=by
    intro n
    unfold mallongelaw12_PaperLess_j3
    simp only [decide_eq_true_eq]
    by_cases c:(f.Facts.length:Int) > 0
    ·obtain ⟨q1,q2⟩:=slice_last f.Facts (by omega) (by omega)
     rw [if_pos c,if_pos q1,q2,j2]; rfl
    ·rw [if_neg c]
     have:=j2 n f.Facts.length
     rw [List.take_length] at this
     rw [this]; rfl
   by_cases c:(f.Acts.length:Int) > 0
   ·obtain ⟨q1,q2⟩:=slice_last f.Acts (by omega) (by omega)
    rw [if_pos c,if_pos q1,q2,j3]; rfl
   ·rw [if_neg c]
    have:=j3 f.Acts.length
    rw [List.take_length] at this
    rw [this]; rfl
  ·rw [if_pos h0]
theorem law12_sums (r:GRealm) (f:GFile) (sum:Int) (bg:BigL r) (w:GRealm.wf r):mallongelaw12_PaperSums r f sum = some true:=by
 unfold mallongelaw12_PaperSums
 obtain ⟨x,e1,g⟩:=few12_spec f
 rw [hs,e1]
 cases x with
 | false=>rfl
 | true =>
  obtain ⟨g1,g2,g3,g4⟩:=g rfl
  simp only [Option.bind_some,Bool.not_true,Bool.false_eq_true,if_false,checkP_eq r f bg w,bne_iff_ne,List.nil_append]
  by_cases h0:checkP r f = 0
  ·rw [if_neg (not_not_intro h0)]
   obtain ⟨h1,h2,h3,h4,h5,h6,h7⟩:=checkP_zero.1 h0
   have ho:=alt_order h5 h1.1
   have hm:∀ i,mpaper_SumAt (GFile.mk f.Bill f.Signs (f.Alters ++ [GAlter.mk (f.Signs.length:Int) sum]) f.Acts f.Facts) i = some (if (f.Signs.length:Int) ≤ i then sum else sumOf f.Alters f.Bill.Sum i):=by
    intro i
    rw [sumAt_eq _ _ (by show (f.Alters ++ [_]).length < 1000; rw [List.length_append,List.length_singleton]; omega)]
    show some (sumOf (f.Alters ++ [_]) f.Bill.Sum i) = _
    rw [sum_append]
   have hf:∀ i,mpaper_SumAt f i = some (sumOf f.Alters f.Bill.Sum i):=fun i=>sumAt_eq f i (by omega)
   rw [if_pos (by omega),if_pos (by omega)]
   simp only [hf,hm,Option.bind_some]
   rw [sum_none f.Alters f.Bill.Sum 0 fun x hx=>by obtain ⟨k,hk,rfl⟩:=mem_el hx; have:=(ho k hk).1; omega,if_neg (not_not_intro rfl),if_pos (Int.le_refl _),if_neg (not_not_intro rfl)]
   have key:mallongelaw12_PaperSums_l2 f sum true 0 = some (.inl ()):=by
    unfold mallongelaw12_PaperSums_l2
    refine iter_all (fun k:Nat=>(k:Int)) f.Signs.length (Sum.inl ()) ?_ ?_
    ·intro i hi
     have l1:mallongelaw12_PaperSums_l1 f sum i true false 0 = some ((f.Alters.take f.Alters.length).any fun x=>x.At == (i:Int) && x.Sum == sumOf f.Alters f.Bill.Sum i):=by
      unfold mallongelaw12_PaperSums_l1
      refine iter_all (step:=fun w=>mallongelaw12_PaperSums_l1_s f sum i true w.1 w.2) (fun k:Nat=>((f.Alters.take k).any fun x=>x.At == (i:Int) && x.Sum == sumOf f.Alters f.Bill.Sum i,(k:Int))) f.Alters.length _ ?_ ?_
      ·intro k hk
       have e:((f.Alters.take (k + 1)).any fun x=>x.At == (i:Int) && x.Sum == sumOf f.Alters f.Bill.Sum i) = (((f.Alters.take k).any fun x=>x.At == (i:Int) && x.Sum == sumOf f.Alters f.Bill.Sum i) || ((el f.Alters k).At == (i:Int) && (el f.Alters k).Sum == sumOf f.Alters f.Bill.Sum i)):=by
        rw [take_el12 _ _ hk,List.any_append]; simp
       simp only [mallongelaw12_PaperSums_l1_s,lt_t hk,if_true,at_el _ _ hk,Option.bind_some,wrap_succ (show k < 9223372036854775807 by omega),e,hf]
       generalize ((f.Alters.take k).any fun x=>x.At == (i:Int) && x.Sum == sumOf f.Alters f.Bill.Sum i) = b
       cases b with
       | true=>rfl
       | false =>
        simp only [Bool.false_eq_true,if_false,Bool.false_or]
        cases (el f.Alters k).At == (i:Int) <;> rfl
      ·simp only [mallongelaw12_PaperSums_l1_s,lt_f,if_false]
     unfold mallongelaw12_PaperSums_l2_s
     simp only [List.nil_append,lt_t hi,if_true,l1,hf,hm,Option.bind_some,wrap_succ (show i < 9223372036854775807 by omega),List.take_length,if_neg (show ¬ (f.Signs.length:Int) ≤ (i:Int) by omega),bne_self_eq_false,Bool.false_eq_true,if_false,decide_eq_true_eq]
     by_cases c:(i:Int) > 0
     ·rw [if_pos c]
      by_cases hb:(f.Alters.any fun x=>x.At == (i:Int) && x.Sum == sumOf f.Alters f.Bill.Sum i) = true
      ·rw [hb]; rfl
      ·have hb' : (f.Alters.any fun x=>x.At == (i:Int) && x.Sum == sumOf f.Alters f.Bill.Sum i) = false:=by simpa using hb
       have hno:∀ x ∈ f.Alters,x.At ≠ (i:Int):=by
        intro x hx he
        obtain ⟨k,hk,rfl⟩:=mem_el hx
        rw [List.any_eq_false] at hb'
        apply hb' _ hx
        have:=sum_at h5 h1.1 f.Bill.Sum hk
        rw [he] at this
        simp [he,this]
       rw [hb',wrap_id (by omega) (by omega),sum_same f.Alters f.Bill.Sum ((i:Int) - 1) (i:Int) fun x hx=>by have:=hno x hx; omega]
       simp
     ·rw [if_neg c]
    ·simp only [mallongelaw12_PaperSums_l2_s,lt_f,if_false]
   rw [key]
   rfl
  ·rw [if_pos h0]
end
end Go.Proofs.Ytfhebiceipgdmaa
