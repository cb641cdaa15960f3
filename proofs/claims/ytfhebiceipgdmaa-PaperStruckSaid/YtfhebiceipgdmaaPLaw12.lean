/- The laws of layer 12 (paper): what is struck out. -/
import Derived.Test.YtfhebiceipgdmaaFn
import Derived.Test.YtfhebiceipgdmaaVmG
set_option linter.unusedVariables false
set_option linter.unusedSimpArgs false
namespace Go.Proofs.Ytfhebiceipgdmaa
open Go.RowKit Vm
theorem take_el12 {α:Type} [Inhabited α] (l:List α) (i:Nat) (h:i < l.length):l.take (i + 1) = l.take i ++ [el l i]:=by
 rw [el_lt _ _ h]; simp [h]
theorem few12_spec (f:GFile):∃ b,mallongeref12_Few f = some b ∧ (b = true→f.Signs.length ≤ 42 ∧ f.Alters.length ≤ 6 ∧ f.Acts.length ≤ 102 ∧ f.Facts.length ≤ 202):=by
 unfold mallongeref12_Few
 by_cases h1:(f.Signs.length:Int) ≤ 42
 ·rw [if_pos (decide_eq_true h1)]
  by_cases h2:(f.Alters.length:Int) ≤ 6
  ·rw [if_pos (decide_eq_true h2)]
   by_cases h3:(f.Acts.length:Int) ≤ 102
   ·rw [if_pos (decide_eq_true h3)]
    exact ⟨_,rfl,fun h=>⟨by omega,by omega,by omega,by have:=of_decide_eq_true h; omega⟩⟩
   ·rw [if_neg (fun q=>h3 (of_decide_eq_true q))]
    exact ⟨_,rfl,fun h=>by cases h⟩
  ·rw [if_neg (fun q=>h2 (of_decide_eq_true q))]
   exact ⟨_,rfl,fun h=>by cases h⟩
 ·rw [if_neg (fun q=>h1 (of_decide_eq_true q))]
  exact ⟨_,rfl,fun h=>by cases h⟩
theorem in_eq12 (a b c:Int):mpaper_in a b c = some (decide (b ≤ a ∧ a ≤ c)):=by
 unfold mpaper_in
 by_cases h:b ≤ a
 ·rw [if_pos (decide_eq_true (show a ≥ b from h))]; simp [h]
 ·rw [if_neg (fun q=>h (of_decide_eq_true q))]; simp [h]
def hitB (day:Int) (i:Int) (a:GAct):Bool:=a.Kind == 7 && (a.At == i && decide (a.Day ≤ day))
def strB (f:GFile) (day:Int) (k:Nat) (i:Int):Bool:=(f.Acts.take k).any (hitB day i)
def strL (f:GFile) (day:Int) (k:Nat):List Bool:=(List.range f.Signs.length).map fun i=>strB f day k (i:Nat)
theorem strL_len (f:GFile) (day:Int) (k:Nat):(strL f day k).length = f.Signs.length:=by simp [strL]
theorem strB_succ (f:GFile) (day:Int) (k:Nat) (i:Int) (h:k < f.Acts.length):strB f day (k + 1) i = (strB f day k i || hitB day i (el f.Acts k)):=by
 unfold strB
 rw [take_el12 _ _ h,List.any_append]
 simp
theorem strL_same (f:GFile) (day:Int) (k:Nat) (h:k < f.Acts.length) (hn:∀ i:Nat,i < f.Signs.length→hitB day i (el f.Acts k) = false):strL f day (k + 1) = strL f day k:=by
 unfold strL
 refine List.map_congr_left fun i hi=>?_
 rw [strB_succ _ _ _ _ h,hn i (by simpa using hi),Bool.or_false]
theorem strL_set (f:GFile) (day:Int) (k m:Nat) (h:k < f.Acts.length) (hm:m < f.Signs.length) (hh:hitB day m (el f.Acts k) = true) (hn:∀ i:Nat,i ≠ m→hitB day i (el f.Acts k) = false):(strL f day k).set m true = strL f day (k + 1):=by
 refine List.ext_getElem (by simp [strL]) fun i h1 h2=>?_
 rw [List.getElem_set]
 have hi:i < f.Signs.length:=by simpa [strL] using h2
 have e:∀ n (q:i < (strL f day n).length),(strL f day n)[i] = strB f day n (i:Nat):=fun n q=>by simp [strL]
 rw [e,e,strB_succ _ _ _ _ h]
 by_cases q:m = i
 ·subst q; rw [if_pos rfl,hh,Bool.or_true]
 ·rw [if_neg q,hn i (fun z=>q z.symm),Bool.or_false]
theorem struck_eq (f:GFile) (day:Int) (h1:f.Signs.length ≤ 42) (h2:f.Acts.length ≤ 102):mpaper_Struck f day = some (strL f day f.Acts.length):=by
 unfold mpaper_Struck
 rw [if_pos (by omega)]
 have h0:List.replicate ((f.Signs.length:Int).toNat) false = strL f day 0:=by
  refine List.ext_getElem (by simp [strL]) fun i q1 q2=>?_
  simp [strL,strB]
 rw [h0]
 have key:mpaper_Struck_l1 f day 0 (strL f day 0) = some (strL f day f.Acts.length):=by
  unfold mpaper_Struck_l1
  refine iter_all (fun k:Nat=>((k:Int),strL f day k)) f.Acts.length (strL f day f.Acts.length) ?_ ?_
  ·intro k hk
   unfold mpaper_Struck_l1_s
   simp only [lt_t hk,if_true,at_el _ _ hk,Option.bind_some,in_eq12,wrap_succ (show k < 9223372036854775807 by omega),strL_len]
   rw [wrap_id (by omega) (by omega)]
   by_cases q1:(el f.Acts k).Kind = 7
   ·rw [if_pos (by simpa using q1)]
    by_cases q2:(el f.Acts k).Day ≤ day
    ·rw [if_pos (decide_eq_true q2)]
     by_cases q3:0 ≤ (el f.Acts k).At ∧ (el f.Acts k).At ≤ (f.Signs.length:Int) - 1
     ·rw [if_pos (decide_eq_true q3),if_pos (by omega)]
      have hm:(el f.Acts k).At.toNat < f.Signs.length:=by omega
      have hg:(strL f day k)[(el f.Acts k).At.toNat]? = some (strB f day k ((el f.Acts k).At.toNat:Nat)):=by
       simp [strL,hm]
      rw [hg,Option.bind_some,strL_set f day k _ hk hm]
      ·simp only [hitB,Bool.and_eq_true,beq_iff_eq,decide_eq_true_eq]; exact ⟨q1,by omega,q2⟩
      ·intro i hi
       have:((el f.Acts k).At == (i:Int)) = false:=by rw [beq_eq_false_iff_ne]; omega
       simp [hitB,this]
     ·rw [if_neg (fun z=>q3 (of_decide_eq_true z)),strL_same f day k hk]
      intro i hi
      have:((el f.Acts k).At == (i:Int)) = false:=by rw [beq_eq_false_iff_ne]; omega
      simp [hitB,this]
    ·rw [if_neg (fun z=>q2 (of_decide_eq_true z)),strL_same f day k hk]
     intro i hi
     simp [hitB,q2]
   ·rw [if_neg (by simpa using q1),strL_same f day k hk]
    intro i hi
    have:((el f.Acts k).Kind == 7) = false:=by rw [beq_eq_false_iff_ne]; exact q1
    simp [hitB,this]
  ·unfold mpaper_Struck_l1_s
   simp only [lt_f,if_false]
 rw [key]
 rfl
theorem strL_el (f:GFile) (day:Int) (k i:Nat) (h:i < f.Signs.length):el (strL f day k) i = strB f day k (i:Nat):=by
 rw [el_lt _ _ (by rw [strL_len]; exact h)]
 simp [strL]
theorem law12_struck (hs:mallongelaw12_sane = some true) (f:GFile) (day more:Int):mallongelaw12_PaperStruck f day more = some true:=by
 unfold mallongelaw12_PaperStruck
 obtain ⟨b,e1,g⟩:=few12_spec f
 rw [hs,e1]
 cases b with
 | false=>rfl
 | true =>
  obtain ⟨g1,g2,g3,g4⟩:=g rfl
  simp only [Option.bind_some,Bool.not_true,Bool.false_eq_true,if_false,decide_eq_true_eq]
  by_cases d1:day < -1000
  ·rw [if_pos d1]
  rw [if_neg d1]
  by_cases d2:day > 200000
  ·rw [if_pos d2]
  rw [if_neg d2]
  by_cases d3:more < 0
  ·rw [if_pos d3]
  rw [if_neg d3]
  by_cases d4:more > 200000
  ·rw [if_pos d4]
  rw [if_neg d4]
  rw [wrap_id (by omega) (by omega),struck_eq f day g1 g3,struck_eq f (day + more) g1 g3]
  simp only [Option.bind_some,strL_len,bne_self_eq_false,Bool.false_eq_true,if_false]
  have key:mallongelaw12_PaperStruck_l2 f day true (strL f day f.Acts.length) (strL f (day + more) f.Acts.length) 0 = some (.inl ()):=by
   unfold mallongelaw12_PaperStruck_l2
   refine iter_all (fun k:Nat=>(k:Int)) f.Signs.length (Sum.inl ()) ?_ ?_
   ·intro i hi
    have l1:mallongelaw12_PaperStruck_l1 f day i true (strL f day f.Acts.length) (strL f (day + more) f.Acts.length) false 0 = some (strB f day f.Acts.length (i:Nat)):=by
     unfold mallongelaw12_PaperStruck_l1
     refine iter_all (fun k:Nat=>(strB f day k (i:Nat),(k:Int))) f.Acts.length (strB f day f.Acts.length (i:Nat)) ?_ ?_
     ·intro k hk
      unfold mallongelaw12_PaperStruck_l1_s
      simp only [lt_t hk,if_true,at_el _ _ hk,Option.bind_some,wrap_succ (show k < 9223372036854775807 by omega),strB_succ _ _ _ _ hk]
      cases strB f day k (i:Nat) with
      | true=>rfl
      | false =>
       simp only [Bool.false_eq_true,if_false,Bool.false_or,hitB]
       cases (el f.Acts k).Kind == 7 with
       | false=>rfl
       | true =>
        simp only [if_true,Bool.true_and]
        cases (el f.Acts k).At == (i:Int) with
        | false=>rfl
        | true=>rfl
     ·unfold mallongelaw12_PaperStruck_l1_s
      simp only [lt_f,if_false]
    unfold mallongelaw12_PaperStruck_l2_s
    have hi1:i < (strL f day f.Acts.length).length:=by rw [strL_len]; exact hi
    have hi2:i < (strL f (day + more) f.Acts.length).length:=by rw [strL_len]; exact hi
    simp only [lt_t hi1,if_true,l1,Option.bind_some,at_el _ _ hi1,at_el _ _ hi2,strL_el _ _ _ _ hi,wrap_succ (show i < 9223372036854775807 by omega),beq_self_eq_true,Bool.not_true,Bool.false_eq_true,if_false]
    cases h:strB f day f.Acts.length (i:Nat) with
    | false=>rfl
    | true =>
     have:strB f (day + more) f.Acts.length (i:Nat) = true:=by
      unfold strB at h ⊢
      rw [List.any_eq_true] at h ⊢
      obtain ⟨a,ha,hb⟩:=h
      refine ⟨a,ha,?_⟩
      simp only [hitB,Bool.and_eq_true,beq_iff_eq,decide_eq_true_eq] at hb ⊢
      exact ⟨hb.1,hb.2.1,by omega⟩
     rw [this]; rfl
   ·unfold mallongelaw12_PaperStruck_l2_s
    simp only [strL_len,lt_f,if_false]
  rw [key]
  rfl
end Go.Proofs.Ytfhebiceipgdmaa
